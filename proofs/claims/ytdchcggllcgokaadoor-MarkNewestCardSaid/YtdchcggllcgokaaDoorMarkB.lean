/-
  ashlar/mark.Newest: the walks. ashlar/ashlarref09.Newest: the walks. ashlarlaw09.one, lives: the walks. ashlarlaw09.MarkPuts: true. ashlarlaw09.MarkGets: true. ashlarlaw09.MarkBack: true. ashlarlaw09.MarkPuts, MarkGets, MarkBack: the contracts for the rows.
-/
import Derived.Test.YtdchcggllcgokaaDoorMarkA
import Derived.OpenShut
namespace Go.Proofs.YtdchcggllcgokaaDoor.K
open Go.RowKit Go.Proofs.YtdchcggllcgokaaDoor.L Go.Proofs.YtdchcggllcgokaaDoor.U Go.Proofs.YtdchcggllcgokaaDoor.R Go.Proofs.YtdchcggllcgokaaDoor.E Go.Proofs.YtdchcggllcgokaaDoorW.PrintWords
set_option linter.unusedVariables false
set_option linter.unusedSimpArgs false
def newM (p q : MQ) : MQ := if p.2 ≠ 0 ∧ q.2 ≠ 0 then ((0, 0, 0, 0, 0), 7) else if p.2 ≠ 0 ∨ (q.2 = 0 ∧ p.1.1 < q.1.1) then (q.1, 0) else (p.1, 0)
set_option maxRecDepth 100000 in
set_option maxHeartbeats 2000000 in
theorem New_A (xs ys : List Int) (HX : Hid (xs.length = 64)) (HY : Hid (ys.length = 64)) (n i1 r1 f1 a1 m i2 r2 f2 a2 : Nat) (ea k : Int) (he : (ea != 0) = true) (hk : (k != 0) = true)
    (P1 : Hid (∀ w : World, Siz w → Calls Tryd.prog 14 #[blk xs] w fun e w' => e = .returned (.tuple #[.int .u64 ((n : Int)), .agg #[.int .u64 ((i1 : Int)), .int .i64 ((r1 : Int)), .int .u64 ((f1 : Int)), .int .u64 ((a1 : Int))], .int .i64 ea]) ∧ Below w.heap.size w w'))
    (P2 : Hid (∀ w : World, Siz w → Calls Tryd.prog 14 #[blk ys] w fun e w' => e = .returned (.tuple #[.int .u64 ((m : Int)), .agg #[.int .u64 ((i2 : Int)), .int .i64 ((r2 : Int)), .int .u64 ((f2 : Int)), .int .u64 ((a2 : Int))], .int .i64 k]) ∧ Below w.heap.size w w')) (w : World) (SZ : Hid (Siz w)) :
    Calls Tryd.prog 17 #[blk xs, blk ys] w fun e w' => e = .returned (.tuple #[.int .u64 (0), .agg #[.int .u64 (0), .int .i64 (0), .int .u64 (0), .int .u64 (0)], .int .i64 7]) ∧ Below w.heap.size w w' := by
  have HB := Lib.hid (Below.refl w.heap.size w)
  have tok0 : True := trivial
  have tp0 : True := trivial
  go_enter Tryd.func17, Tryd.ntmps17
  go_wp2_with (first
    | (go_skip)
    | (refine F.blkBox (.tmp 0) rfl rfl HX.out rfl ?_; intro w1 hk hb1 hz1; replace HB := Lib.hid (below_ext HB.out hb1); have K2 := Lib.hid hk; clear hk hb1)
    | (refine F.blkBox (.tmp 1) rfl rfl HY.out rfl ?_; intro w2 hk hb2 hz2; replace K2 := Lib.hid (K2.out.below hb2); replace HB := Lib.hid (below_ext HB.out hb2); have K3 := Lib.hid hk; clear hk hb2)
    | (have _t := tok0; refine F.rowAlloc 24 rfl _ zero_mark rfl ?_; intro w3 hk hb3 hz3; replace K2 := Lib.hid (K2.out.below hb3); replace K3 := Lib.hid (K3.out.below hb3); replace HB := Lib.hid (below_ext HB.out hb3); have K5 := Lib.hid hk; have tok1 : True := trivial; clear hk hb3 _t tok0)
    | (refine F.blkLoad (.tmp 2) rfl K2.out rfl rfl ?_)
    | (have _t := tp0; go_at_call 14; refine (P1.out _ (SZ.out.below HB.out)).mono ?_; rintro e w4 ⟨rfl, hb4⟩; replace K2 := Lib.hid (K2.out.below hb4); replace K3 := Lib.hid (K3.out.below hb4); replace K5 := Lib.hid (K5.out.below hb4); replace HB := Lib.hid (below_ext HB.out hb4); have hz4 := hb4.size; clear hb4; have tp1 : True := trivial; clear _t tp0)
    | (have _t := tok1; refine F.rowAlloc 24 rfl _ zero_mark rfl ?_; intro w5 hk hb5 hz5; replace K2 := Lib.hid (K2.out.below hb5); replace K3 := Lib.hid (K3.out.below hb5); replace K5 := Lib.hid (K5.out.below hb5); replace HB := Lib.hid (below_ext HB.out hb5); have K8 := Lib.hid hk; have tok2 : True := trivial; clear hk hb5 _t tok1)
    | (refine F.rowStore (cs := #[.int .u64 ((i1 : Int)), .int .i64 ((r1 : Int)), .int .u64 ((f1 : Int)), .int .u64 ((a1 : Int))]) 24 (.tmp 8) (.tmp 17) rfl K8.out rfl rfl info_mark rfl (ones_mark _ _ _ _) rfl ?_; intro w6 hk hg; replace HB := Lib.hid (below_at HB.out hg (by omega) K8.out.lt); replace K2 := Lib.hid (K2.out.grown hg (by omega)); replace K3 := Lib.hid (K3.out.grown hg (by omega)); replace K5 := Lib.hid (K5.out.grown hg (by omega)); replace K8 := Lib.hid hk; have hz6 := hg.size; clear hk hg)
    | (refine F.blkLoad (.tmp 3) rfl K3.out rfl rfl ?_)
    | (have _t := tp1; go_at_call 14; refine (P2.out _ (SZ.out.below HB.out)).mono ?_; rintro e w7 ⟨rfl, hb7⟩; replace K2 := Lib.hid (K2.out.below hb7); replace K3 := Lib.hid (K3.out.below hb7); replace K5 := Lib.hid (K5.out.below hb7); replace K8 := Lib.hid (K8.out.below hb7); replace HB := Lib.hid (below_ext HB.out hb7); have hz7 := hb7.size; clear hb7; have tp2 : True := trivial; clear _t tp1)
    | (have _t := tok2; refine F.rowAlloc 24 rfl _ zero_mark rfl ?_; intro w8 hk hb8 hz8; replace K2 := Lib.hid (K2.out.below hb8); replace K3 := Lib.hid (K3.out.below hb8); replace K5 := Lib.hid (K5.out.below hb8); replace K8 := Lib.hid (K8.out.below hb8); replace HB := Lib.hid (below_ext HB.out hb8); have K11 := Lib.hid hk; have tok3 : True := trivial; clear hk hb8 _t tok2)
    | (refine F.rowStore (cs := #[.int .u64 ((i2 : Int)), .int .i64 ((r2 : Int)), .int .u64 ((f2 : Int)), .int .u64 ((a2 : Int))]) 24 (.tmp 11) (.tmp 23) rfl K11.out rfl rfl info_mark rfl (ones_mark _ _ _ _) rfl ?_; intro w9 hk hg; replace HB := Lib.hid (below_at HB.out hg (by omega) K11.out.lt); replace K2 := Lib.hid (K2.out.grown hg (by omega)); replace K3 := Lib.hid (K3.out.grown hg (by omega)); replace K5 := Lib.hid (K5.out.grown hg (by omega)); replace K8 := Lib.hid (K8.out.grown hg (by omega)); replace K11 := Lib.hid hk; have hz9 := hg.size; clear hk hg)
    | (refine F.rowStore (cs := #[.int .u64 (0), .int .i64 (0), .int .u64 (0), .int .u64 (0)]) 24 (.tmp 5) (.tmp 32) rfl K5.out rfl rfl info_mark rfl (ones_mark _ _ _ _) rfl ?_; intro w10 hk hg; replace HB := Lib.hid (below_at HB.out hg (by omega) K5.out.lt); replace K2 := Lib.hid (K2.out.grown hg (by omega)); replace K3 := Lib.hid (K3.out.grown hg (by omega)); replace K8 := Lib.hid (K8.out.grown hg (by omega)); replace K11 := Lib.hid (K11.out.grown hg (by omega)); replace K5 := Lib.hid hk; have hz10 := hg.size; clear hk hg))
  exact bodyPost_ret (v := .tuple #[.int .u64 (0), .agg #[.int .u64 (0), .int .i64 (0), .int .u64 (0), .int .u64 (0)], .int .i64 7]) (ret_mark rfl _ _ rfl K5.out rfl rfl rfl) rfl ⟨rfl, HB.out⟩
set_option maxRecDepth 100000 in
set_option maxHeartbeats 2000000 in
theorem New_B (xs ys : List Int) (HX : Hid (xs.length = 64)) (HY : Hid (ys.length = 64)) (n i1 r1 f1 a1 m i2 r2 f2 a2 : Nat) (ea k : Int) (he : (ea != 0) = true)
    (P1 : Hid (∀ w : World, Siz w → Calls Tryd.prog 14 #[blk xs] w fun e w' => e = .returned (.tuple #[.int .u64 ((n : Int)), .agg #[.int .u64 ((i1 : Int)), .int .i64 ((r1 : Int)), .int .u64 ((f1 : Int)), .int .u64 ((a1 : Int))], .int .i64 ea]) ∧ Below w.heap.size w w'))
    (P2 : Hid (∀ w : World, Siz w → Calls Tryd.prog 14 #[blk ys] w fun e w' => e = .returned (.tuple #[.int .u64 ((m : Int)), .agg #[.int .u64 ((i2 : Int)), .int .i64 ((r2 : Int)), .int .u64 ((f2 : Int)), .int .u64 ((a2 : Int))], .int .i64 0]) ∧ Below w.heap.size w w')) (w : World) (SZ : Hid (Siz w)) :
    Calls Tryd.prog 17 #[blk xs, blk ys] w fun e w' => e = .returned (.tuple #[.int .u64 ((m : Int)), .agg #[.int .u64 ((i2 : Int)), .int .i64 ((r2 : Int)), .int .u64 ((f2 : Int)), .int .u64 ((a2 : Int))], .int .i64 0]) ∧ Below w.heap.size w w' := by
  have HB := Lib.hid (Below.refl w.heap.size w)
  have tok0 : True := trivial
  have tp0 : True := trivial
  go_enter Tryd.func17, Tryd.ntmps17
  go_wp2_with (first
    | (go_skip)
    | (refine F.blkBox (.tmp 0) rfl rfl HX.out rfl ?_; intro w1 hk hb1 hz1; replace HB := Lib.hid (below_ext HB.out hb1); have K2 := Lib.hid hk; clear hk hb1)
    | (refine F.blkBox (.tmp 1) rfl rfl HY.out rfl ?_; intro w2 hk hb2 hz2; replace K2 := Lib.hid (K2.out.below hb2); replace HB := Lib.hid (below_ext HB.out hb2); have K3 := Lib.hid hk; clear hk hb2)
    | (have _t := tok0; refine F.rowAlloc 24 rfl _ zero_mark rfl ?_; intro w3 hk hb3 hz3; replace K2 := Lib.hid (K2.out.below hb3); replace K3 := Lib.hid (K3.out.below hb3); replace HB := Lib.hid (below_ext HB.out hb3); have K5 := Lib.hid hk; have tok1 : True := trivial; clear hk hb3 _t tok0)
    | (refine F.blkLoad (.tmp 2) rfl K2.out rfl rfl ?_)
    | (have _t := tp0; go_at_call 14; refine (P1.out _ (SZ.out.below HB.out)).mono ?_; rintro e w4 ⟨rfl, hb4⟩; replace K2 := Lib.hid (K2.out.below hb4); replace K3 := Lib.hid (K3.out.below hb4); replace K5 := Lib.hid (K5.out.below hb4); replace HB := Lib.hid (below_ext HB.out hb4); have hz4 := hb4.size; clear hb4; have tp1 : True := trivial; clear _t tp0)
    | (have _t := tok1; refine F.rowAlloc 24 rfl _ zero_mark rfl ?_; intro w5 hk hb5 hz5; replace K2 := Lib.hid (K2.out.below hb5); replace K3 := Lib.hid (K3.out.below hb5); replace K5 := Lib.hid (K5.out.below hb5); replace HB := Lib.hid (below_ext HB.out hb5); have K8 := Lib.hid hk; have tok2 : True := trivial; clear hk hb5 _t tok1)
    | (refine F.rowStore (cs := #[.int .u64 ((i1 : Int)), .int .i64 ((r1 : Int)), .int .u64 ((f1 : Int)), .int .u64 ((a1 : Int))]) 24 (.tmp 8) (.tmp 17) rfl K8.out rfl rfl info_mark rfl (ones_mark _ _ _ _) rfl ?_; intro w6 hk hg; replace HB := Lib.hid (below_at HB.out hg (by omega) K8.out.lt); replace K2 := Lib.hid (K2.out.grown hg (by omega)); replace K3 := Lib.hid (K3.out.grown hg (by omega)); replace K5 := Lib.hid (K5.out.grown hg (by omega)); replace K8 := Lib.hid hk; have hz6 := hg.size; clear hk hg)
    | (refine F.blkLoad (.tmp 3) rfl K3.out rfl rfl ?_)
    | (have _t := tp1; go_at_call 14; refine (P2.out _ (SZ.out.below HB.out)).mono ?_; rintro e w7 ⟨rfl, hb7⟩; replace K2 := Lib.hid (K2.out.below hb7); replace K3 := Lib.hid (K3.out.below hb7); replace K5 := Lib.hid (K5.out.below hb7); replace K8 := Lib.hid (K8.out.below hb7); replace HB := Lib.hid (below_ext HB.out hb7); have hz7 := hb7.size; clear hb7; have tp2 : True := trivial; clear _t tp1)
    | (have _t := tok2; refine F.rowAlloc 24 rfl _ zero_mark rfl ?_; intro w8 hk hb8 hz8; replace K2 := Lib.hid (K2.out.below hb8); replace K3 := Lib.hid (K3.out.below hb8); replace K5 := Lib.hid (K5.out.below hb8); replace K8 := Lib.hid (K8.out.below hb8); replace HB := Lib.hid (below_ext HB.out hb8); have K11 := Lib.hid hk; have tok3 : True := trivial; clear hk hb8 _t tok2)
    | (refine F.rowStore (cs := #[.int .u64 ((i2 : Int)), .int .i64 ((r2 : Int)), .int .u64 ((f2 : Int)), .int .u64 ((a2 : Int))]) 24 (.tmp 11) (.tmp 23) rfl K11.out rfl rfl info_mark rfl (ones_mark _ _ _ _) rfl ?_; intro w9 hk hg; replace HB := Lib.hid (below_at HB.out hg (by omega) K11.out.lt); replace K2 := Lib.hid (K2.out.grown hg (by omega)); replace K3 := Lib.hid (K3.out.grown hg (by omega)); replace K5 := Lib.hid (K5.out.grown hg (by omega)); replace K8 := Lib.hid (K8.out.grown hg (by omega)); replace K11 := Lib.hid hk; have hz9 := hg.size; clear hk hg))
  have kc0 := K11.out.cell (o := 0) rfl
  have kc1 := K11.out.cell (o := 1) rfl
  have kc2 := K11.out.cell (o := 2) rfl
  have kc3 := K11.out.cell (o := 3) rfl
  have sc0 := K5.out.cell (o := 0) rfl
  have sc1 := K5.out.cell (o := 1) rfl
  have sc2 := K5.out.cell (o := 2) rfl
  have sc3 := K5.out.cell (o := 3) rfl
  have fz0 := K5.out.free (o := 0)
  have fz1 := K5.out.free (o := 1)
  have fz2 := K5.out.free (o := 2)
  have fz3 := K5.out.free (o := 3)
  have lk := K11.out.lt
  have hne : ¬ (w7.heap.size = w2.heap.size) := by omega
  have hne2 : ¬ (w2.heap.size = w7.heap.size) := by omega
  go_region
  have rr0 := setCell_row (o := 0) (v := .int .u64 ((i2 : Int))) K5.out
  have rr1 := setCell_row (o := 1) (v := .int .i64 ((r2 : Int))) rr0.1
  have rr2 := setCell_row (o := 2) (v := .int .u64 ((f2 : Int))) rr1.1
  have rr3 := setCell_row (o := 3) (v := .int .u64 ((a2 : Int))) rr2.1
  have hle : w.heap.size ≤ w2.heap.size := by omega
  have K9 := Lib.hid (show Row 24 ((((w9.setCell ⟨w2.heap.size, 0, none⟩ (.int .u64 ((i2 : Int)))).setCell ⟨w2.heap.size, 1, none⟩ (.int .i64 ((r2 : Int)))).setCell ⟨w2.heap.size, 2, none⟩ (.int .u64 ((f2 : Int)))).setCell ⟨w2.heap.size, 3, none⟩ (.int .u64 ((a2 : Int)))).drew w2.heap.size #[.int .u64 ((i2 : Int)), .int .i64 ((r2 : Int)), .int .u64 ((f2 : Int)), .int .u64 ((a2 : Int))] from rr3.1)
  have HB9 := Lib.hid (show Below w.heap.size w ((((w9.setCell ⟨w2.heap.size, 0, none⟩ (.int .u64 ((i2 : Int)))).setCell ⟨w2.heap.size, 1, none⟩ (.int .i64 ((r2 : Int)))).setCell ⟨w2.heap.size, 2, none⟩ (.int .u64 ((f2 : Int)))).setCell ⟨w2.heap.size, 3, none⟩ (.int .u64 ((a2 : Int)))).drew from below_drewN ((((HB.out.setCell (p := ⟨w2.heap.size, 0, none⟩) hle _).setCell (p := ⟨w2.heap.size, 1, none⟩) hle _).setCell (p := ⟨w2.heap.size, 2, none⟩) hle _).setCell (p := ⟨w2.heap.size, 3, none⟩) hle _) 1)
  clear rr0 rr1 rr2 rr3 kc0 kc1 kc2 kc3 sc0 sc1 sc2 sc3 fz0 fz1 fz2 fz3 K11 K5
  generalize ((((w9.setCell ⟨w2.heap.size, 0, none⟩ (.int .u64 ((i2 : Int)))).setCell ⟨w2.heap.size, 1, none⟩ (.int .i64 ((r2 : Int)))).setCell ⟨w2.heap.size, 2, none⟩ (.int .u64 ((f2 : Int)))).setCell ⟨w2.heap.size, 3, none⟩ (.int .u64 ((a2 : Int)))).drew = w26 at K9 HB9 ⊢
  go_wp2
  exact bodyPost_ret (v := .tuple #[.int .u64 ((m : Int)), .agg #[.int .u64 ((i2 : Int)), .int .i64 ((r2 : Int)), .int .u64 ((f2 : Int)), .int .u64 ((a2 : Int))], .int .i64 0]) (ret_mark rfl _ _ rfl K9.out rfl rfl rfl) rfl ⟨rfl, HB9.out⟩
set_option maxRecDepth 100000 in
set_option maxHeartbeats 2000000 in
theorem New_C (xs ys : List Int) (HX : Hid (xs.length = 64)) (HY : Hid (ys.length = 64)) (n i1 r1 f1 a1 m i2 r2 f2 a2 : Nat) (ea k : Int) (h : n < m)
    (P1 : Hid (∀ w : World, Siz w → Calls Tryd.prog 14 #[blk xs] w fun e w' => e = .returned (.tuple #[.int .u64 ((n : Int)), .agg #[.int .u64 ((i1 : Int)), .int .i64 ((r1 : Int)), .int .u64 ((f1 : Int)), .int .u64 ((a1 : Int))], .int .i64 0]) ∧ Below w.heap.size w w'))
    (P2 : Hid (∀ w : World, Siz w → Calls Tryd.prog 14 #[blk ys] w fun e w' => e = .returned (.tuple #[.int .u64 ((m : Int)), .agg #[.int .u64 ((i2 : Int)), .int .i64 ((r2 : Int)), .int .u64 ((f2 : Int)), .int .u64 ((a2 : Int))], .int .i64 0]) ∧ Below w.heap.size w w')) (w : World) (SZ : Hid (Siz w)) :
    Calls Tryd.prog 17 #[blk xs, blk ys] w fun e w' => e = .returned (.tuple #[.int .u64 ((m : Int)), .agg #[.int .u64 ((i2 : Int)), .int .i64 ((r2 : Int)), .int .u64 ((f2 : Int)), .int .u64 ((a2 : Int))], .int .i64 0]) ∧ Below w.heap.size w w' := by
  have HB := Lib.hid (Below.refl w.heap.size w)
  have g1 : decide (n < m) = true := by simp; omega
  have g2 : decide ((n : Int) < (m : Int)) = true := by simp; omega
  have tok0 : True := trivial
  have tp0 : True := trivial
  go_enter Tryd.func17, Tryd.ntmps17
  go_wp2_with (first
    | (go_skip)
    | (refine F.blkBox (.tmp 0) rfl rfl HX.out rfl ?_; intro w1 hk hb1 hz1; replace HB := Lib.hid (below_ext HB.out hb1); have K2 := Lib.hid hk; clear hk hb1)
    | (refine F.blkBox (.tmp 1) rfl rfl HY.out rfl ?_; intro w2 hk hb2 hz2; replace K2 := Lib.hid (K2.out.below hb2); replace HB := Lib.hid (below_ext HB.out hb2); have K3 := Lib.hid hk; clear hk hb2)
    | (have _t := tok0; refine F.rowAlloc 24 rfl _ zero_mark rfl ?_; intro w3 hk hb3 hz3; replace K2 := Lib.hid (K2.out.below hb3); replace K3 := Lib.hid (K3.out.below hb3); replace HB := Lib.hid (below_ext HB.out hb3); have K5 := Lib.hid hk; have tok1 : True := trivial; clear hk hb3 _t tok0)
    | (refine F.blkLoad (.tmp 2) rfl K2.out rfl rfl ?_)
    | (have _t := tp0; go_at_call 14; refine (P1.out _ (SZ.out.below HB.out)).mono ?_; rintro e w4 ⟨rfl, hb4⟩; replace K2 := Lib.hid (K2.out.below hb4); replace K3 := Lib.hid (K3.out.below hb4); replace K5 := Lib.hid (K5.out.below hb4); replace HB := Lib.hid (below_ext HB.out hb4); have hz4 := hb4.size; clear hb4; have tp1 : True := trivial; clear _t tp0)
    | (have _t := tok1; refine F.rowAlloc 24 rfl _ zero_mark rfl ?_; intro w5 hk hb5 hz5; replace K2 := Lib.hid (K2.out.below hb5); replace K3 := Lib.hid (K3.out.below hb5); replace K5 := Lib.hid (K5.out.below hb5); replace HB := Lib.hid (below_ext HB.out hb5); have K8 := Lib.hid hk; have tok2 : True := trivial; clear hk hb5 _t tok1)
    | (refine F.rowStore (cs := #[.int .u64 ((i1 : Int)), .int .i64 ((r1 : Int)), .int .u64 ((f1 : Int)), .int .u64 ((a1 : Int))]) 24 (.tmp 8) (.tmp 17) rfl K8.out rfl rfl info_mark rfl (ones_mark _ _ _ _) rfl ?_; intro w6 hk hg; replace HB := Lib.hid (below_at HB.out hg (by omega) K8.out.lt); replace K2 := Lib.hid (K2.out.grown hg (by omega)); replace K3 := Lib.hid (K3.out.grown hg (by omega)); replace K5 := Lib.hid (K5.out.grown hg (by omega)); replace K8 := Lib.hid hk; have hz6 := hg.size; clear hk hg)
    | (refine F.blkLoad (.tmp 3) rfl K3.out rfl rfl ?_)
    | (have _t := tp1; go_at_call 14; refine (P2.out _ (SZ.out.below HB.out)).mono ?_; rintro e w7 ⟨rfl, hb7⟩; replace K2 := Lib.hid (K2.out.below hb7); replace K3 := Lib.hid (K3.out.below hb7); replace K5 := Lib.hid (K5.out.below hb7); replace K8 := Lib.hid (K8.out.below hb7); replace HB := Lib.hid (below_ext HB.out hb7); have hz7 := hb7.size; clear hb7; have tp2 : True := trivial; clear _t tp1)
    | (have _t := tok2; refine F.rowAlloc 24 rfl _ zero_mark rfl ?_; intro w8 hk hb8 hz8; replace K2 := Lib.hid (K2.out.below hb8); replace K3 := Lib.hid (K3.out.below hb8); replace K5 := Lib.hid (K5.out.below hb8); replace K8 := Lib.hid (K8.out.below hb8); replace HB := Lib.hid (below_ext HB.out hb8); have K11 := Lib.hid hk; have tok3 : True := trivial; clear hk hb8 _t tok2)
    | (refine F.rowStore (cs := #[.int .u64 ((i2 : Int)), .int .i64 ((r2 : Int)), .int .u64 ((f2 : Int)), .int .u64 ((a2 : Int))]) 24 (.tmp 11) (.tmp 23) rfl K11.out rfl rfl info_mark rfl (ones_mark _ _ _ _) rfl ?_; intro w9 hk hg; replace HB := Lib.hid (below_at HB.out hg (by omega) K11.out.lt); replace K2 := Lib.hid (K2.out.grown hg (by omega)); replace K3 := Lib.hid (K3.out.grown hg (by omega)); replace K5 := Lib.hid (K5.out.grown hg (by omega)); replace K8 := Lib.hid (K8.out.grown hg (by omega)); replace K11 := Lib.hid hk; have hz9 := hg.size; clear hk hg))
  have kc0 := K11.out.cell (o := 0) rfl
  have kc1 := K11.out.cell (o := 1) rfl
  have kc2 := K11.out.cell (o := 2) rfl
  have kc3 := K11.out.cell (o := 3) rfl
  have sc0 := K5.out.cell (o := 0) rfl
  have sc1 := K5.out.cell (o := 1) rfl
  have sc2 := K5.out.cell (o := 2) rfl
  have sc3 := K5.out.cell (o := 3) rfl
  have fz0 := K5.out.free (o := 0)
  have fz1 := K5.out.free (o := 1)
  have fz2 := K5.out.free (o := 2)
  have fz3 := K5.out.free (o := 3)
  have lk := K11.out.lt
  have hne : ¬ (w7.heap.size = w2.heap.size) := by omega
  have hne2 : ¬ (w2.heap.size = w7.heap.size) := by omega
  go_region
  have rr0 := setCell_row (o := 0) (v := .int .u64 ((i2 : Int))) K5.out
  have rr1 := setCell_row (o := 1) (v := .int .i64 ((r2 : Int))) rr0.1
  have rr2 := setCell_row (o := 2) (v := .int .u64 ((f2 : Int))) rr1.1
  have rr3 := setCell_row (o := 3) (v := .int .u64 ((a2 : Int))) rr2.1
  have hle : w.heap.size ≤ w2.heap.size := by omega
  have K9 := Lib.hid (show Row 24 ((((w9.setCell ⟨w2.heap.size, 0, none⟩ (.int .u64 ((i2 : Int)))).setCell ⟨w2.heap.size, 1, none⟩ (.int .i64 ((r2 : Int)))).setCell ⟨w2.heap.size, 2, none⟩ (.int .u64 ((f2 : Int)))).setCell ⟨w2.heap.size, 3, none⟩ (.int .u64 ((a2 : Int)))).drew w2.heap.size #[.int .u64 ((i2 : Int)), .int .i64 ((r2 : Int)), .int .u64 ((f2 : Int)), .int .u64 ((a2 : Int))] from rr3.1)
  have HB9 := Lib.hid (show Below w.heap.size w ((((w9.setCell ⟨w2.heap.size, 0, none⟩ (.int .u64 ((i2 : Int)))).setCell ⟨w2.heap.size, 1, none⟩ (.int .i64 ((r2 : Int)))).setCell ⟨w2.heap.size, 2, none⟩ (.int .u64 ((f2 : Int)))).setCell ⟨w2.heap.size, 3, none⟩ (.int .u64 ((a2 : Int)))).drew from below_drewN ((((HB.out.setCell (p := ⟨w2.heap.size, 0, none⟩) hle _).setCell (p := ⟨w2.heap.size, 1, none⟩) hle _).setCell (p := ⟨w2.heap.size, 2, none⟩) hle _).setCell (p := ⟨w2.heap.size, 3, none⟩) hle _) 1)
  clear rr0 rr1 rr2 rr3 kc0 kc1 kc2 kc3 sc0 sc1 sc2 sc3 fz0 fz1 fz2 fz3 K11 K5
  generalize ((((w9.setCell ⟨w2.heap.size, 0, none⟩ (.int .u64 ((i2 : Int)))).setCell ⟨w2.heap.size, 1, none⟩ (.int .i64 ((r2 : Int)))).setCell ⟨w2.heap.size, 2, none⟩ (.int .u64 ((f2 : Int)))).setCell ⟨w2.heap.size, 3, none⟩ (.int .u64 ((a2 : Int)))).drew = w26 at K9 HB9 ⊢
  go_wp2
  exact bodyPost_ret (v := .tuple #[.int .u64 ((m : Int)), .agg #[.int .u64 ((i2 : Int)), .int .i64 ((r2 : Int)), .int .u64 ((f2 : Int)), .int .u64 ((a2 : Int))], .int .i64 0]) (ret_mark rfl _ _ rfl K9.out rfl rfl rfl) rfl ⟨rfl, HB9.out⟩
set_option maxRecDepth 100000 in
set_option maxHeartbeats 2000000 in
theorem New_D (xs ys : List Int) (HX : Hid (xs.length = 64)) (HY : Hid (ys.length = 64)) (n i1 r1 f1 a1 m i2 r2 f2 a2 : Nat) (ea k : Int) (h : ¬ n < m)
    (P1 : Hid (∀ w : World, Siz w → Calls Tryd.prog 14 #[blk xs] w fun e w' => e = .returned (.tuple #[.int .u64 ((n : Int)), .agg #[.int .u64 ((i1 : Int)), .int .i64 ((r1 : Int)), .int .u64 ((f1 : Int)), .int .u64 ((a1 : Int))], .int .i64 0]) ∧ Below w.heap.size w w'))
    (P2 : Hid (∀ w : World, Siz w → Calls Tryd.prog 14 #[blk ys] w fun e w' => e = .returned (.tuple #[.int .u64 ((m : Int)), .agg #[.int .u64 ((i2 : Int)), .int .i64 ((r2 : Int)), .int .u64 ((f2 : Int)), .int .u64 ((a2 : Int))], .int .i64 0]) ∧ Below w.heap.size w w')) (w : World) (SZ : Hid (Siz w)) :
    Calls Tryd.prog 17 #[blk xs, blk ys] w fun e w' => e = .returned (.tuple #[.int .u64 ((n : Int)), .agg #[.int .u64 ((i1 : Int)), .int .i64 ((r1 : Int)), .int .u64 ((f1 : Int)), .int .u64 ((a1 : Int))], .int .i64 0]) ∧ Below w.heap.size w w' := by
  have HB := Lib.hid (Below.refl w.heap.size w)
  have g1 : decide (n < m) = false := by simp; omega
  have g2 : decide ((n : Int) < (m : Int)) = false := by simp; omega
  have tok0 : True := trivial
  have tp0 : True := trivial
  go_enter Tryd.func17, Tryd.ntmps17
  go_wp2_with (first
    | (go_skip)
    | (refine F.blkBox (.tmp 0) rfl rfl HX.out rfl ?_; intro w1 hk hb1 hz1; replace HB := Lib.hid (below_ext HB.out hb1); have K2 := Lib.hid hk; clear hk hb1)
    | (refine F.blkBox (.tmp 1) rfl rfl HY.out rfl ?_; intro w2 hk hb2 hz2; replace K2 := Lib.hid (K2.out.below hb2); replace HB := Lib.hid (below_ext HB.out hb2); have K3 := Lib.hid hk; clear hk hb2)
    | (have _t := tok0; refine F.rowAlloc 24 rfl _ zero_mark rfl ?_; intro w3 hk hb3 hz3; replace K2 := Lib.hid (K2.out.below hb3); replace K3 := Lib.hid (K3.out.below hb3); replace HB := Lib.hid (below_ext HB.out hb3); have K5 := Lib.hid hk; have tok1 : True := trivial; clear hk hb3 _t tok0)
    | (refine F.blkLoad (.tmp 2) rfl K2.out rfl rfl ?_)
    | (have _t := tp0; go_at_call 14; refine (P1.out _ (SZ.out.below HB.out)).mono ?_; rintro e w4 ⟨rfl, hb4⟩; replace K2 := Lib.hid (K2.out.below hb4); replace K3 := Lib.hid (K3.out.below hb4); replace K5 := Lib.hid (K5.out.below hb4); replace HB := Lib.hid (below_ext HB.out hb4); have hz4 := hb4.size; clear hb4; have tp1 : True := trivial; clear _t tp0)
    | (have _t := tok1; refine F.rowAlloc 24 rfl _ zero_mark rfl ?_; intro w5 hk hb5 hz5; replace K2 := Lib.hid (K2.out.below hb5); replace K3 := Lib.hid (K3.out.below hb5); replace K5 := Lib.hid (K5.out.below hb5); replace HB := Lib.hid (below_ext HB.out hb5); have K8 := Lib.hid hk; have tok2 : True := trivial; clear hk hb5 _t tok1)
    | (refine F.rowStore (cs := #[.int .u64 ((i1 : Int)), .int .i64 ((r1 : Int)), .int .u64 ((f1 : Int)), .int .u64 ((a1 : Int))]) 24 (.tmp 8) (.tmp 17) rfl K8.out rfl rfl info_mark rfl (ones_mark _ _ _ _) rfl ?_; intro w6 hk hg; replace HB := Lib.hid (below_at HB.out hg (by omega) K8.out.lt); replace K2 := Lib.hid (K2.out.grown hg (by omega)); replace K3 := Lib.hid (K3.out.grown hg (by omega)); replace K5 := Lib.hid (K5.out.grown hg (by omega)); replace K8 := Lib.hid hk; have hz6 := hg.size; clear hk hg)
    | (refine F.blkLoad (.tmp 3) rfl K3.out rfl rfl ?_)
    | (have _t := tp1; go_at_call 14; refine (P2.out _ (SZ.out.below HB.out)).mono ?_; rintro e w7 ⟨rfl, hb7⟩; replace K2 := Lib.hid (K2.out.below hb7); replace K3 := Lib.hid (K3.out.below hb7); replace K5 := Lib.hid (K5.out.below hb7); replace K8 := Lib.hid (K8.out.below hb7); replace HB := Lib.hid (below_ext HB.out hb7); have hz7 := hb7.size; clear hb7; have tp2 : True := trivial; clear _t tp1)
    | (have _t := tok2; refine F.rowAlloc 24 rfl _ zero_mark rfl ?_; intro w8 hk hb8 hz8; replace K2 := Lib.hid (K2.out.below hb8); replace K3 := Lib.hid (K3.out.below hb8); replace K5 := Lib.hid (K5.out.below hb8); replace K8 := Lib.hid (K8.out.below hb8); replace HB := Lib.hid (below_ext HB.out hb8); have K11 := Lib.hid hk; have tok3 : True := trivial; clear hk hb8 _t tok2)
    | (refine F.rowStore (cs := #[.int .u64 ((i2 : Int)), .int .i64 ((r2 : Int)), .int .u64 ((f2 : Int)), .int .u64 ((a2 : Int))]) 24 (.tmp 11) (.tmp 23) rfl K11.out rfl rfl info_mark rfl (ones_mark _ _ _ _) rfl ?_; intro w9 hk hg; replace HB := Lib.hid (below_at HB.out hg (by omega) K11.out.lt); replace K2 := Lib.hid (K2.out.grown hg (by omega)); replace K3 := Lib.hid (K3.out.grown hg (by omega)); replace K5 := Lib.hid (K5.out.grown hg (by omega)); replace K8 := Lib.hid (K8.out.grown hg (by omega)); replace K11 := Lib.hid hk; have hz9 := hg.size; clear hk hg))
  have kc0 := K8.out.cell (o := 0) rfl
  have kc1 := K8.out.cell (o := 1) rfl
  have kc2 := K8.out.cell (o := 2) rfl
  have kc3 := K8.out.cell (o := 3) rfl
  have sc0 := K5.out.cell (o := 0) rfl
  have sc1 := K5.out.cell (o := 1) rfl
  have sc2 := K5.out.cell (o := 2) rfl
  have sc3 := K5.out.cell (o := 3) rfl
  have fz0 := K5.out.free (o := 0)
  have fz1 := K5.out.free (o := 1)
  have fz2 := K5.out.free (o := 2)
  have fz3 := K5.out.free (o := 3)
  have lk := K8.out.lt
  have hne : ¬ (w4.heap.size = w2.heap.size) := by omega
  have hne2 : ¬ (w2.heap.size = w4.heap.size) := by omega
  go_region
  have rr0 := setCell_row (o := 0) (v := .int .u64 ((i1 : Int))) K5.out
  have rr1 := setCell_row (o := 1) (v := .int .i64 ((r1 : Int))) rr0.1
  have rr2 := setCell_row (o := 2) (v := .int .u64 ((f1 : Int))) rr1.1
  have rr3 := setCell_row (o := 3) (v := .int .u64 ((a1 : Int))) rr2.1
  have hle : w.heap.size ≤ w2.heap.size := by omega
  have K9 := Lib.hid (show Row 24 ((((w9.setCell ⟨w2.heap.size, 0, none⟩ (.int .u64 ((i1 : Int)))).setCell ⟨w2.heap.size, 1, none⟩ (.int .i64 ((r1 : Int)))).setCell ⟨w2.heap.size, 2, none⟩ (.int .u64 ((f1 : Int)))).setCell ⟨w2.heap.size, 3, none⟩ (.int .u64 ((a1 : Int)))).drew w2.heap.size #[.int .u64 ((i1 : Int)), .int .i64 ((r1 : Int)), .int .u64 ((f1 : Int)), .int .u64 ((a1 : Int))] from rr3.1)
  have HB9 := Lib.hid (show Below w.heap.size w ((((w9.setCell ⟨w2.heap.size, 0, none⟩ (.int .u64 ((i1 : Int)))).setCell ⟨w2.heap.size, 1, none⟩ (.int .i64 ((r1 : Int)))).setCell ⟨w2.heap.size, 2, none⟩ (.int .u64 ((f1 : Int)))).setCell ⟨w2.heap.size, 3, none⟩ (.int .u64 ((a1 : Int)))).drew from below_drewN ((((HB.out.setCell (p := ⟨w2.heap.size, 0, none⟩) hle _).setCell (p := ⟨w2.heap.size, 1, none⟩) hle _).setCell (p := ⟨w2.heap.size, 2, none⟩) hle _).setCell (p := ⟨w2.heap.size, 3, none⟩) hle _) 1)
  clear rr0 rr1 rr2 rr3 kc0 kc1 kc2 kc3 sc0 sc1 sc2 sc3 fz0 fz1 fz2 fz3 K8 K5
  generalize ((((w9.setCell ⟨w2.heap.size, 0, none⟩ (.int .u64 ((i1 : Int)))).setCell ⟨w2.heap.size, 1, none⟩ (.int .i64 ((r1 : Int)))).setCell ⟨w2.heap.size, 2, none⟩ (.int .u64 ((f1 : Int)))).setCell ⟨w2.heap.size, 3, none⟩ (.int .u64 ((a1 : Int)))).drew = w26 at K9 HB9 ⊢
  go_wp2
  exact bodyPost_ret (v := .tuple #[.int .u64 ((n : Int)), .agg #[.int .u64 ((i1 : Int)), .int .i64 ((r1 : Int)), .int .u64 ((f1 : Int)), .int .u64 ((a1 : Int))], .int .i64 0]) (ret_mark rfl _ _ rfl K9.out rfl rfl rfl) rfl ⟨rfl, HB9.out⟩
set_option maxRecDepth 100000 in
set_option maxHeartbeats 2000000 in
theorem New_E (xs ys : List Int) (HX : Hid (xs.length = 64)) (HY : Hid (ys.length = 64)) (n i1 r1 f1 a1 m i2 r2 f2 a2 : Nat) (ea k : Int) (hk : (k != 0) = true) (hk2 : (k == 0) = false)
    (P1 : Hid (∀ w : World, Siz w → Calls Tryd.prog 14 #[blk xs] w fun e w' => e = .returned (.tuple #[.int .u64 ((n : Int)), .agg #[.int .u64 ((i1 : Int)), .int .i64 ((r1 : Int)), .int .u64 ((f1 : Int)), .int .u64 ((a1 : Int))], .int .i64 0]) ∧ Below w.heap.size w w'))
    (P2 : Hid (∀ w : World, Siz w → Calls Tryd.prog 14 #[blk ys] w fun e w' => e = .returned (.tuple #[.int .u64 ((m : Int)), .agg #[.int .u64 ((i2 : Int)), .int .i64 ((r2 : Int)), .int .u64 ((f2 : Int)), .int .u64 ((a2 : Int))], .int .i64 k]) ∧ Below w.heap.size w w')) (w : World) (SZ : Hid (Siz w)) :
    Calls Tryd.prog 17 #[blk xs, blk ys] w fun e w' => e = .returned (.tuple #[.int .u64 ((n : Int)), .agg #[.int .u64 ((i1 : Int)), .int .i64 ((r1 : Int)), .int .u64 ((f1 : Int)), .int .u64 ((a1 : Int))], .int .i64 0]) ∧ Below w.heap.size w w' := by
  have HB := Lib.hid (Below.refl w.heap.size w)
  have tok0 : True := trivial
  have tp0 : True := trivial
  go_enter Tryd.func17, Tryd.ntmps17
  go_wp2_with (first
    | (go_skip)
    | (refine F.blkBox (.tmp 0) rfl rfl HX.out rfl ?_; intro w1 hk hb1 hz1; replace HB := Lib.hid (below_ext HB.out hb1); have K2 := Lib.hid hk; clear hk hb1)
    | (refine F.blkBox (.tmp 1) rfl rfl HY.out rfl ?_; intro w2 hk hb2 hz2; replace K2 := Lib.hid (K2.out.below hb2); replace HB := Lib.hid (below_ext HB.out hb2); have K3 := Lib.hid hk; clear hk hb2)
    | (have _t := tok0; refine F.rowAlloc 24 rfl _ zero_mark rfl ?_; intro w3 hk hb3 hz3; replace K2 := Lib.hid (K2.out.below hb3); replace K3 := Lib.hid (K3.out.below hb3); replace HB := Lib.hid (below_ext HB.out hb3); have K5 := Lib.hid hk; have tok1 : True := trivial; clear hk hb3 _t tok0)
    | (refine F.blkLoad (.tmp 2) rfl K2.out rfl rfl ?_)
    | (have _t := tp0; go_at_call 14; refine (P1.out _ (SZ.out.below HB.out)).mono ?_; rintro e w4 ⟨rfl, hb4⟩; replace K2 := Lib.hid (K2.out.below hb4); replace K3 := Lib.hid (K3.out.below hb4); replace K5 := Lib.hid (K5.out.below hb4); replace HB := Lib.hid (below_ext HB.out hb4); have hz4 := hb4.size; clear hb4; have tp1 : True := trivial; clear _t tp0)
    | (have _t := tok1; refine F.rowAlloc 24 rfl _ zero_mark rfl ?_; intro w5 hk hb5 hz5; replace K2 := Lib.hid (K2.out.below hb5); replace K3 := Lib.hid (K3.out.below hb5); replace K5 := Lib.hid (K5.out.below hb5); replace HB := Lib.hid (below_ext HB.out hb5); have K8 := Lib.hid hk; have tok2 : True := trivial; clear hk hb5 _t tok1)
    | (refine F.rowStore (cs := #[.int .u64 ((i1 : Int)), .int .i64 ((r1 : Int)), .int .u64 ((f1 : Int)), .int .u64 ((a1 : Int))]) 24 (.tmp 8) (.tmp 17) rfl K8.out rfl rfl info_mark rfl (ones_mark _ _ _ _) rfl ?_; intro w6 hk hg; replace HB := Lib.hid (below_at HB.out hg (by omega) K8.out.lt); replace K2 := Lib.hid (K2.out.grown hg (by omega)); replace K3 := Lib.hid (K3.out.grown hg (by omega)); replace K5 := Lib.hid (K5.out.grown hg (by omega)); replace K8 := Lib.hid hk; have hz6 := hg.size; clear hk hg)
    | (refine F.blkLoad (.tmp 3) rfl K3.out rfl rfl ?_)
    | (have _t := tp1; go_at_call 14; refine (P2.out _ (SZ.out.below HB.out)).mono ?_; rintro e w7 ⟨rfl, hb7⟩; replace K2 := Lib.hid (K2.out.below hb7); replace K3 := Lib.hid (K3.out.below hb7); replace K5 := Lib.hid (K5.out.below hb7); replace K8 := Lib.hid (K8.out.below hb7); replace HB := Lib.hid (below_ext HB.out hb7); have hz7 := hb7.size; clear hb7; have tp2 : True := trivial; clear _t tp1)
    | (have _t := tok2; refine F.rowAlloc 24 rfl _ zero_mark rfl ?_; intro w8 hk hb8 hz8; replace K2 := Lib.hid (K2.out.below hb8); replace K3 := Lib.hid (K3.out.below hb8); replace K5 := Lib.hid (K5.out.below hb8); replace K8 := Lib.hid (K8.out.below hb8); replace HB := Lib.hid (below_ext HB.out hb8); have K11 := Lib.hid hk; have tok3 : True := trivial; clear hk hb8 _t tok2)
    | (refine F.rowStore (cs := #[.int .u64 ((i2 : Int)), .int .i64 ((r2 : Int)), .int .u64 ((f2 : Int)), .int .u64 ((a2 : Int))]) 24 (.tmp 11) (.tmp 23) rfl K11.out rfl rfl info_mark rfl (ones_mark _ _ _ _) rfl ?_; intro w9 hk hg; replace HB := Lib.hid (below_at HB.out hg (by omega) K11.out.lt); replace K2 := Lib.hid (K2.out.grown hg (by omega)); replace K3 := Lib.hid (K3.out.grown hg (by omega)); replace K5 := Lib.hid (K5.out.grown hg (by omega)); replace K8 := Lib.hid (K8.out.grown hg (by omega)); replace K11 := Lib.hid hk; have hz9 := hg.size; clear hk hg))
  have kc0 := K8.out.cell (o := 0) rfl
  have kc1 := K8.out.cell (o := 1) rfl
  have kc2 := K8.out.cell (o := 2) rfl
  have kc3 := K8.out.cell (o := 3) rfl
  have sc0 := K5.out.cell (o := 0) rfl
  have sc1 := K5.out.cell (o := 1) rfl
  have sc2 := K5.out.cell (o := 2) rfl
  have sc3 := K5.out.cell (o := 3) rfl
  have fz0 := K5.out.free (o := 0)
  have fz1 := K5.out.free (o := 1)
  have fz2 := K5.out.free (o := 2)
  have fz3 := K5.out.free (o := 3)
  have lk := K8.out.lt
  have hne : ¬ (w4.heap.size = w2.heap.size) := by omega
  have hne2 : ¬ (w2.heap.size = w4.heap.size) := by omega
  go_region
  have rr0 := setCell_row (o := 0) (v := .int .u64 ((i1 : Int))) K5.out
  have rr1 := setCell_row (o := 1) (v := .int .i64 ((r1 : Int))) rr0.1
  have rr2 := setCell_row (o := 2) (v := .int .u64 ((f1 : Int))) rr1.1
  have rr3 := setCell_row (o := 3) (v := .int .u64 ((a1 : Int))) rr2.1
  have hle : w.heap.size ≤ w2.heap.size := by omega
  have K9 := Lib.hid (show Row 24 ((((w9.setCell ⟨w2.heap.size, 0, none⟩ (.int .u64 ((i1 : Int)))).setCell ⟨w2.heap.size, 1, none⟩ (.int .i64 ((r1 : Int)))).setCell ⟨w2.heap.size, 2, none⟩ (.int .u64 ((f1 : Int)))).setCell ⟨w2.heap.size, 3, none⟩ (.int .u64 ((a1 : Int)))).drew w2.heap.size #[.int .u64 ((i1 : Int)), .int .i64 ((r1 : Int)), .int .u64 ((f1 : Int)), .int .u64 ((a1 : Int))] from rr3.1)
  have HB9 := Lib.hid (show Below w.heap.size w ((((w9.setCell ⟨w2.heap.size, 0, none⟩ (.int .u64 ((i1 : Int)))).setCell ⟨w2.heap.size, 1, none⟩ (.int .i64 ((r1 : Int)))).setCell ⟨w2.heap.size, 2, none⟩ (.int .u64 ((f1 : Int)))).setCell ⟨w2.heap.size, 3, none⟩ (.int .u64 ((a1 : Int)))).drew from below_drewN ((((HB.out.setCell (p := ⟨w2.heap.size, 0, none⟩) hle _).setCell (p := ⟨w2.heap.size, 1, none⟩) hle _).setCell (p := ⟨w2.heap.size, 2, none⟩) hle _).setCell (p := ⟨w2.heap.size, 3, none⟩) hle _) 1)
  clear rr0 rr1 rr2 rr3 kc0 kc1 kc2 kc3 sc0 sc1 sc2 sc3 fz0 fz1 fz2 fz3 K8 K5
  generalize ((((w9.setCell ⟨w2.heap.size, 0, none⟩ (.int .u64 ((i1 : Int)))).setCell ⟨w2.heap.size, 1, none⟩ (.int .i64 ((r1 : Int)))).setCell ⟨w2.heap.size, 2, none⟩ (.int .u64 ((f1 : Int)))).setCell ⟨w2.heap.size, 3, none⟩ (.int .u64 ((a1 : Int)))).drew = w26 at K9 HB9 ⊢
  go_wp2
  exact bodyPost_ret (v := .tuple #[.int .u64 ((n : Int)), .agg #[.int .u64 ((i1 : Int)), .int .i64 ((r1 : Int)), .int .u64 ((f1 : Int)), .int .u64 ((a1 : Int))], .int .i64 0]) (ret_mark rfl _ _ rfl K9.out rfl rfl rfl) rfl ⟨rfl, HB9.out⟩
theorem Newest_mark (xs ys : List Int) (hl : xs.length = 64) (hw : Wf8 xs) (kl : ys.length = 64) (kw : Wf8 ys) (w : World) (SZ : Siz w) :
    Calls Tryd.prog 17 #[blk xs, blk ys] w fun e w' => e = .returned (.tuple #[.int .u64 ((newM (gotM xs) (gotM ys)).1.1 : Int), magg (newM (gotM xs) (gotM ys)).1.2.1 ((newM (gotM xs) (gotM ys)).1.2.2.1 : Int) (newM (gotM xs) (gotM ys)).1.2.2.2.1 (newM (gotM xs) (gotM ys)).1.2.2.2.2, .int .i64 (newM (gotM xs) (gotM ys)).2]) ∧ Below w.heap.size w w' := by
  have p1 := fun (w : World) (SZ : Siz w) => Get_mark xs hl hw w SZ
  have p2 := fun (w : World) (SZ : Siz w) => Get_mark ys kl kw w SZ
  generalize gotM xs = p at *
  generalize gotM ys = q at *
  obtain ⟨⟨n, i1, r1, f1, a1⟩, e⟩ := p
  obtain ⟨⟨m, i2, r2, f2, a2⟩, k⟩ := q
  by_cases he : e = 0
  · subst he
    by_cases hk : k = 0
    · subst hk
      by_cases h : n < m
      · rw [show newM ((n, i1, r1, f1, a1), 0) ((m, i2, r2, f2, a2), 0) = ((m, i2, r2, f2, a2), 0) by simp [newM, h]]
        exact New_C xs ys (Lib.hid hl) (Lib.hid kl) n i1 r1 f1 a1 m i2 r2 f2 a2 0 0 h (Lib.hid p1) (Lib.hid p2) w (Lib.hid SZ)
      · rw [show newM ((n, i1, r1, f1, a1), 0) ((m, i2, r2, f2, a2), 0) = ((n, i1, r1, f1, a1), 0) by simp [newM, h]]
        exact New_D xs ys (Lib.hid hl) (Lib.hid kl) n i1 r1 f1 a1 m i2 r2 f2 a2 0 0 h (Lib.hid p1) (Lib.hid p2) w (Lib.hid SZ)
    · rw [show newM ((n, i1, r1, f1, a1), 0) ((m, i2, r2, f2, a2), k) = ((n, i1, r1, f1, a1), 0) by simp [newM, hk]]
      exact New_E xs ys (Lib.hid hl) (Lib.hid kl) n i1 r1 f1 a1 m i2 r2 f2 a2 0 k (bne_iff_ne.2 hk) (by simpa using hk) (Lib.hid p1) (Lib.hid p2) w (Lib.hid SZ)
  · by_cases hk : k = 0
    · subst hk
      rw [show newM ((n, i1, r1, f1, a1), e) ((m, i2, r2, f2, a2), 0) = ((m, i2, r2, f2, a2), 0) by simp [newM, he]]
      exact New_B xs ys (Lib.hid hl) (Lib.hid kl) n i1 r1 f1 a1 m i2 r2 f2 a2 e 0 (bne_iff_ne.2 he) (Lib.hid p1) (Lib.hid p2) w (Lib.hid SZ)
    · rw [show newM ((n, i1, r1, f1, a1), e) ((m, i2, r2, f2, a2), k) = ((0, 0, 0, 0, 0), 7) by simp [newM, he, hk]]
      exact New_A xs ys (Lib.hid hl) (Lib.hid kl) n i1 r1 f1 a1 m i2 r2 f2 a2 e k (bne_iff_ne.2 he) (bne_iff_ne.2 hk) (Lib.hid p1) (Lib.hid p2) w (Lib.hid SZ)
end Go.Proofs.YtdchcggllcgokaaDoor.K

namespace Go.Proofs.YtdchcggllcgokaaDoor.K
open Go.RowKit Go.Proofs.YtdchcggllcgokaaDoor.L Go.Proofs.YtdchcggllcgokaaDoor.U Go.Proofs.YtdchcggllcgokaaDoor.R Go.Proofs.YtdchcggllcgokaaDoor.E Go.Proofs.YtdchcggllcgokaaDoorW.PrintWords
set_option linter.unusedVariables false
set_option linter.unusedSimpArgs false
set_option maxRecDepth 100000 in
set_option maxHeartbeats 2000000 in
theorem rNew_A (xs ys : List Int) (HX : Hid (xs.length = 64)) (HY : Hid (ys.length = 64)) (n i1 r1 f1 a1 m i2 r2 f2 a2 : Nat) (ea k : Int) (he : (ea != 0) = true) (hk : (k != 0) = true)
    (P1 : Hid (∀ w : World, Siz w → Calls Tryd.prog 15 #[blk xs] w fun e w' => e = .returned (.tuple #[.int .u64 ((n : Int)), .agg #[.int .u64 ((i1 : Int)), .int .i64 ((r1 : Int)), .int .u64 ((f1 : Int)), .int .u64 ((a1 : Int))], .int .i64 ea]) ∧ Below w.heap.size w w'))
    (P2 : Hid (∀ w : World, Siz w → Calls Tryd.prog 15 #[blk ys] w fun e w' => e = .returned (.tuple #[.int .u64 ((m : Int)), .agg #[.int .u64 ((i2 : Int)), .int .i64 ((r2 : Int)), .int .u64 ((f2 : Int)), .int .u64 ((a2 : Int))], .int .i64 k]) ∧ Below w.heap.size w w')) (w : World) (SZ : Hid (Siz w)) :
    Calls Tryd.prog 18 #[blk xs, blk ys] w fun e w' => e = .returned (.tuple #[.int .u64 (0), .agg #[.int .u64 (0), .int .i64 (0), .int .u64 (0), .int .u64 (0)], .int .i64 7]) ∧ Below w.heap.size w w' := by
  have HB := Lib.hid (Below.refl w.heap.size w)
  have tok0 : True := trivial
  have tp0 : True := trivial
  go_enter Tryd.func18, Tryd.ntmps18
  go_wp2_with (first
    | (go_skip)
    | (refine F.blkBox (.tmp 0) rfl rfl HX.out rfl ?_; intro w1 hk hb1 hz1; replace HB := Lib.hid (below_ext HB.out hb1); have K2 := Lib.hid hk; clear hk hb1)
    | (refine F.blkBox (.tmp 1) rfl rfl HY.out rfl ?_; intro w2 hk hb2 hz2; replace K2 := Lib.hid (K2.out.below hb2); replace HB := Lib.hid (below_ext HB.out hb2); have K3 := Lib.hid hk; clear hk hb2)
    | (have _t := tok0; refine F.rowAlloc 24 rfl _ zero_mark rfl ?_; intro w3 hk hb3 hz3; replace K2 := Lib.hid (K2.out.below hb3); replace K3 := Lib.hid (K3.out.below hb3); replace HB := Lib.hid (below_ext HB.out hb3); have K5 := Lib.hid hk; have tok1 : True := trivial; clear hk hb3 _t tok0)
    | (refine F.blkLoad (.tmp 2) rfl K2.out rfl rfl ?_)
    | (have _t := tp0; go_at_call 15; refine (P1.out _ (SZ.out.below HB.out)).mono ?_; rintro e w4 ⟨rfl, hb4⟩; replace K2 := Lib.hid (K2.out.below hb4); replace K3 := Lib.hid (K3.out.below hb4); replace K5 := Lib.hid (K5.out.below hb4); replace HB := Lib.hid (below_ext HB.out hb4); have hz4 := hb4.size; clear hb4; have tp1 : True := trivial; clear _t tp0)
    | (have _t := tok1; refine F.rowAlloc 24 rfl _ zero_mark rfl ?_; intro w5 hk hb5 hz5; replace K2 := Lib.hid (K2.out.below hb5); replace K3 := Lib.hid (K3.out.below hb5); replace K5 := Lib.hid (K5.out.below hb5); replace HB := Lib.hid (below_ext HB.out hb5); have K8 := Lib.hid hk; have tok2 : True := trivial; clear hk hb5 _t tok1)
    | (refine F.rowStore (cs := #[.int .u64 ((i1 : Int)), .int .i64 ((r1 : Int)), .int .u64 ((f1 : Int)), .int .u64 ((a1 : Int))]) 24 (.tmp 8) (.tmp 17) rfl K8.out rfl rfl info_mark rfl (ones_mark _ _ _ _) rfl ?_; intro w6 hk hg; replace HB := Lib.hid (below_at HB.out hg (by omega) K8.out.lt); replace K2 := Lib.hid (K2.out.grown hg (by omega)); replace K3 := Lib.hid (K3.out.grown hg (by omega)); replace K5 := Lib.hid (K5.out.grown hg (by omega)); replace K8 := Lib.hid hk; have hz6 := hg.size; clear hk hg)
    | (refine F.blkLoad (.tmp 3) rfl K3.out rfl rfl ?_)
    | (have _t := tp1; go_at_call 15; refine (P2.out _ (SZ.out.below HB.out)).mono ?_; rintro e w7 ⟨rfl, hb7⟩; replace K2 := Lib.hid (K2.out.below hb7); replace K3 := Lib.hid (K3.out.below hb7); replace K5 := Lib.hid (K5.out.below hb7); replace K8 := Lib.hid (K8.out.below hb7); replace HB := Lib.hid (below_ext HB.out hb7); have hz7 := hb7.size; clear hb7; have tp2 : True := trivial; clear _t tp1)
    | (have _t := tok2; refine F.rowAlloc 24 rfl _ zero_mark rfl ?_; intro w8 hk hb8 hz8; replace K2 := Lib.hid (K2.out.below hb8); replace K3 := Lib.hid (K3.out.below hb8); replace K5 := Lib.hid (K5.out.below hb8); replace K8 := Lib.hid (K8.out.below hb8); replace HB := Lib.hid (below_ext HB.out hb8); have K11 := Lib.hid hk; have tok3 : True := trivial; clear hk hb8 _t tok2)
    | (refine F.rowStore (cs := #[.int .u64 ((i2 : Int)), .int .i64 ((r2 : Int)), .int .u64 ((f2 : Int)), .int .u64 ((a2 : Int))]) 24 (.tmp 11) (.tmp 23) rfl K11.out rfl rfl info_mark rfl (ones_mark _ _ _ _) rfl ?_; intro w9 hk hg; replace HB := Lib.hid (below_at HB.out hg (by omega) K11.out.lt); replace K2 := Lib.hid (K2.out.grown hg (by omega)); replace K3 := Lib.hid (K3.out.grown hg (by omega)); replace K5 := Lib.hid (K5.out.grown hg (by omega)); replace K8 := Lib.hid (K8.out.grown hg (by omega)); replace K11 := Lib.hid hk; have hz9 := hg.size; clear hk hg)
    | (refine F.rowStore (cs := #[.int .u64 (0), .int .i64 (0), .int .u64 (0), .int .u64 (0)]) 24 (.tmp 5) (.tmp 31) rfl K5.out rfl rfl info_mark rfl (ones_mark _ _ _ _) rfl ?_; intro w10 hk hg; replace HB := Lib.hid (below_at HB.out hg (by omega) K5.out.lt); replace K2 := Lib.hid (K2.out.grown hg (by omega)); replace K3 := Lib.hid (K3.out.grown hg (by omega)); replace K8 := Lib.hid (K8.out.grown hg (by omega)); replace K11 := Lib.hid (K11.out.grown hg (by omega)); replace K5 := Lib.hid hk; have hz10 := hg.size; clear hk hg))
  exact bodyPost_ret (v := .tuple #[.int .u64 (0), .agg #[.int .u64 (0), .int .i64 (0), .int .u64 (0), .int .u64 (0)], .int .i64 7]) (ret_mark rfl _ _ rfl K5.out rfl rfl rfl) rfl ⟨rfl, HB.out⟩
set_option maxRecDepth 100000 in
set_option maxHeartbeats 2000000 in
theorem rNew_B (xs ys : List Int) (HX : Hid (xs.length = 64)) (HY : Hid (ys.length = 64)) (n i1 r1 f1 a1 m i2 r2 f2 a2 : Nat) (ea k : Int) (he : (ea != 0) = true)
    (P1 : Hid (∀ w : World, Siz w → Calls Tryd.prog 15 #[blk xs] w fun e w' => e = .returned (.tuple #[.int .u64 ((n : Int)), .agg #[.int .u64 ((i1 : Int)), .int .i64 ((r1 : Int)), .int .u64 ((f1 : Int)), .int .u64 ((a1 : Int))], .int .i64 ea]) ∧ Below w.heap.size w w'))
    (P2 : Hid (∀ w : World, Siz w → Calls Tryd.prog 15 #[blk ys] w fun e w' => e = .returned (.tuple #[.int .u64 ((m : Int)), .agg #[.int .u64 ((i2 : Int)), .int .i64 ((r2 : Int)), .int .u64 ((f2 : Int)), .int .u64 ((a2 : Int))], .int .i64 0]) ∧ Below w.heap.size w w')) (w : World) (SZ : Hid (Siz w)) :
    Calls Tryd.prog 18 #[blk xs, blk ys] w fun e w' => e = .returned (.tuple #[.int .u64 ((m : Int)), .agg #[.int .u64 ((i2 : Int)), .int .i64 ((r2 : Int)), .int .u64 ((f2 : Int)), .int .u64 ((a2 : Int))], .int .i64 0]) ∧ Below w.heap.size w w' := by
  have HB := Lib.hid (Below.refl w.heap.size w)
  have tok0 : True := trivial
  have tp0 : True := trivial
  go_enter Tryd.func18, Tryd.ntmps18
  go_wp2_with (first
    | (go_skip)
    | (refine F.blkBox (.tmp 0) rfl rfl HX.out rfl ?_; intro w1 hk hb1 hz1; replace HB := Lib.hid (below_ext HB.out hb1); have K2 := Lib.hid hk; clear hk hb1)
    | (refine F.blkBox (.tmp 1) rfl rfl HY.out rfl ?_; intro w2 hk hb2 hz2; replace K2 := Lib.hid (K2.out.below hb2); replace HB := Lib.hid (below_ext HB.out hb2); have K3 := Lib.hid hk; clear hk hb2)
    | (have _t := tok0; refine F.rowAlloc 24 rfl _ zero_mark rfl ?_; intro w3 hk hb3 hz3; replace K2 := Lib.hid (K2.out.below hb3); replace K3 := Lib.hid (K3.out.below hb3); replace HB := Lib.hid (below_ext HB.out hb3); have K5 := Lib.hid hk; have tok1 : True := trivial; clear hk hb3 _t tok0)
    | (refine F.blkLoad (.tmp 2) rfl K2.out rfl rfl ?_)
    | (have _t := tp0; go_at_call 15; refine (P1.out _ (SZ.out.below HB.out)).mono ?_; rintro e w4 ⟨rfl, hb4⟩; replace K2 := Lib.hid (K2.out.below hb4); replace K3 := Lib.hid (K3.out.below hb4); replace K5 := Lib.hid (K5.out.below hb4); replace HB := Lib.hid (below_ext HB.out hb4); have hz4 := hb4.size; clear hb4; have tp1 : True := trivial; clear _t tp0)
    | (have _t := tok1; refine F.rowAlloc 24 rfl _ zero_mark rfl ?_; intro w5 hk hb5 hz5; replace K2 := Lib.hid (K2.out.below hb5); replace K3 := Lib.hid (K3.out.below hb5); replace K5 := Lib.hid (K5.out.below hb5); replace HB := Lib.hid (below_ext HB.out hb5); have K8 := Lib.hid hk; have tok2 : True := trivial; clear hk hb5 _t tok1)
    | (refine F.rowStore (cs := #[.int .u64 ((i1 : Int)), .int .i64 ((r1 : Int)), .int .u64 ((f1 : Int)), .int .u64 ((a1 : Int))]) 24 (.tmp 8) (.tmp 17) rfl K8.out rfl rfl info_mark rfl (ones_mark _ _ _ _) rfl ?_; intro w6 hk hg; replace HB := Lib.hid (below_at HB.out hg (by omega) K8.out.lt); replace K2 := Lib.hid (K2.out.grown hg (by omega)); replace K3 := Lib.hid (K3.out.grown hg (by omega)); replace K5 := Lib.hid (K5.out.grown hg (by omega)); replace K8 := Lib.hid hk; have hz6 := hg.size; clear hk hg)
    | (refine F.blkLoad (.tmp 3) rfl K3.out rfl rfl ?_)
    | (have _t := tp1; go_at_call 15; refine (P2.out _ (SZ.out.below HB.out)).mono ?_; rintro e w7 ⟨rfl, hb7⟩; replace K2 := Lib.hid (K2.out.below hb7); replace K3 := Lib.hid (K3.out.below hb7); replace K5 := Lib.hid (K5.out.below hb7); replace K8 := Lib.hid (K8.out.below hb7); replace HB := Lib.hid (below_ext HB.out hb7); have hz7 := hb7.size; clear hb7; have tp2 : True := trivial; clear _t tp1)
    | (have _t := tok2; refine F.rowAlloc 24 rfl _ zero_mark rfl ?_; intro w8 hk hb8 hz8; replace K2 := Lib.hid (K2.out.below hb8); replace K3 := Lib.hid (K3.out.below hb8); replace K5 := Lib.hid (K5.out.below hb8); replace K8 := Lib.hid (K8.out.below hb8); replace HB := Lib.hid (below_ext HB.out hb8); have K11 := Lib.hid hk; have tok3 : True := trivial; clear hk hb8 _t tok2)
    | (refine F.rowStore (cs := #[.int .u64 ((i2 : Int)), .int .i64 ((r2 : Int)), .int .u64 ((f2 : Int)), .int .u64 ((a2 : Int))]) 24 (.tmp 11) (.tmp 23) rfl K11.out rfl rfl info_mark rfl (ones_mark _ _ _ _) rfl ?_; intro w9 hk hg; replace HB := Lib.hid (below_at HB.out hg (by omega) K11.out.lt); replace K2 := Lib.hid (K2.out.grown hg (by omega)); replace K3 := Lib.hid (K3.out.grown hg (by omega)); replace K5 := Lib.hid (K5.out.grown hg (by omega)); replace K8 := Lib.hid (K8.out.grown hg (by omega)); replace K11 := Lib.hid hk; have hz9 := hg.size; clear hk hg))
  have kc0 := K11.out.cell (o := 0) rfl
  have kc1 := K11.out.cell (o := 1) rfl
  have kc2 := K11.out.cell (o := 2) rfl
  have kc3 := K11.out.cell (o := 3) rfl
  have sc0 := K5.out.cell (o := 0) rfl
  have sc1 := K5.out.cell (o := 1) rfl
  have sc2 := K5.out.cell (o := 2) rfl
  have sc3 := K5.out.cell (o := 3) rfl
  have fz0 := K5.out.free (o := 0)
  have fz1 := K5.out.free (o := 1)
  have fz2 := K5.out.free (o := 2)
  have fz3 := K5.out.free (o := 3)
  have lk := K11.out.lt
  have hne : ¬ (w7.heap.size = w2.heap.size) := by omega
  have hne2 : ¬ (w2.heap.size = w7.heap.size) := by omega
  go_region
  have rr0 := setCell_row (o := 0) (v := .int .u64 ((i2 : Int))) K5.out
  have rr1 := setCell_row (o := 1) (v := .int .i64 ((r2 : Int))) rr0.1
  have rr2 := setCell_row (o := 2) (v := .int .u64 ((f2 : Int))) rr1.1
  have rr3 := setCell_row (o := 3) (v := .int .u64 ((a2 : Int))) rr2.1
  have hle : w.heap.size ≤ w2.heap.size := by omega
  have K9 := Lib.hid (show Row 24 ((((w9.setCell ⟨w2.heap.size, 0, none⟩ (.int .u64 ((i2 : Int)))).setCell ⟨w2.heap.size, 1, none⟩ (.int .i64 ((r2 : Int)))).setCell ⟨w2.heap.size, 2, none⟩ (.int .u64 ((f2 : Int)))).setCell ⟨w2.heap.size, 3, none⟩ (.int .u64 ((a2 : Int)))).drew w2.heap.size #[.int .u64 ((i2 : Int)), .int .i64 ((r2 : Int)), .int .u64 ((f2 : Int)), .int .u64 ((a2 : Int))] from rr3.1)
  have HB9 := Lib.hid (show Below w.heap.size w ((((w9.setCell ⟨w2.heap.size, 0, none⟩ (.int .u64 ((i2 : Int)))).setCell ⟨w2.heap.size, 1, none⟩ (.int .i64 ((r2 : Int)))).setCell ⟨w2.heap.size, 2, none⟩ (.int .u64 ((f2 : Int)))).setCell ⟨w2.heap.size, 3, none⟩ (.int .u64 ((a2 : Int)))).drew from below_drewN ((((HB.out.setCell (p := ⟨w2.heap.size, 0, none⟩) hle _).setCell (p := ⟨w2.heap.size, 1, none⟩) hle _).setCell (p := ⟨w2.heap.size, 2, none⟩) hle _).setCell (p := ⟨w2.heap.size, 3, none⟩) hle _) 1)
  clear rr0 rr1 rr2 rr3 kc0 kc1 kc2 kc3 sc0 sc1 sc2 sc3 fz0 fz1 fz2 fz3 K11 K5
  generalize ((((w9.setCell ⟨w2.heap.size, 0, none⟩ (.int .u64 ((i2 : Int)))).setCell ⟨w2.heap.size, 1, none⟩ (.int .i64 ((r2 : Int)))).setCell ⟨w2.heap.size, 2, none⟩ (.int .u64 ((f2 : Int)))).setCell ⟨w2.heap.size, 3, none⟩ (.int .u64 ((a2 : Int)))).drew = w26 at K9 HB9 ⊢
  go_wp2
  exact bodyPost_ret (v := .tuple #[.int .u64 ((m : Int)), .agg #[.int .u64 ((i2 : Int)), .int .i64 ((r2 : Int)), .int .u64 ((f2 : Int)), .int .u64 ((a2 : Int))], .int .i64 0]) (ret_mark rfl _ _ rfl K9.out rfl rfl rfl) rfl ⟨rfl, HB9.out⟩
set_option maxRecDepth 100000 in
set_option maxHeartbeats 2000000 in
theorem rNew_C (xs ys : List Int) (HX : Hid (xs.length = 64)) (HY : Hid (ys.length = 64)) (n i1 r1 f1 a1 m i2 r2 f2 a2 : Nat) (ea k : Int) (h : n < m)
    (P1 : Hid (∀ w : World, Siz w → Calls Tryd.prog 15 #[blk xs] w fun e w' => e = .returned (.tuple #[.int .u64 ((n : Int)), .agg #[.int .u64 ((i1 : Int)), .int .i64 ((r1 : Int)), .int .u64 ((f1 : Int)), .int .u64 ((a1 : Int))], .int .i64 0]) ∧ Below w.heap.size w w'))
    (P2 : Hid (∀ w : World, Siz w → Calls Tryd.prog 15 #[blk ys] w fun e w' => e = .returned (.tuple #[.int .u64 ((m : Int)), .agg #[.int .u64 ((i2 : Int)), .int .i64 ((r2 : Int)), .int .u64 ((f2 : Int)), .int .u64 ((a2 : Int))], .int .i64 0]) ∧ Below w.heap.size w w')) (w : World) (SZ : Hid (Siz w)) :
    Calls Tryd.prog 18 #[blk xs, blk ys] w fun e w' => e = .returned (.tuple #[.int .u64 ((m : Int)), .agg #[.int .u64 ((i2 : Int)), .int .i64 ((r2 : Int)), .int .u64 ((f2 : Int)), .int .u64 ((a2 : Int))], .int .i64 0]) ∧ Below w.heap.size w w' := by
  have HB := Lib.hid (Below.refl w.heap.size w)
  have g1 : decide (n < m) = true := by simp; omega
  have g2 : decide ((n : Int) < (m : Int)) = true := by simp; omega
  have tok0 : True := trivial
  have tp0 : True := trivial
  go_enter Tryd.func18, Tryd.ntmps18
  go_wp2_with (first
    | (go_skip)
    | (refine F.blkBox (.tmp 0) rfl rfl HX.out rfl ?_; intro w1 hk hb1 hz1; replace HB := Lib.hid (below_ext HB.out hb1); have K2 := Lib.hid hk; clear hk hb1)
    | (refine F.blkBox (.tmp 1) rfl rfl HY.out rfl ?_; intro w2 hk hb2 hz2; replace K2 := Lib.hid (K2.out.below hb2); replace HB := Lib.hid (below_ext HB.out hb2); have K3 := Lib.hid hk; clear hk hb2)
    | (have _t := tok0; refine F.rowAlloc 24 rfl _ zero_mark rfl ?_; intro w3 hk hb3 hz3; replace K2 := Lib.hid (K2.out.below hb3); replace K3 := Lib.hid (K3.out.below hb3); replace HB := Lib.hid (below_ext HB.out hb3); have K5 := Lib.hid hk; have tok1 : True := trivial; clear hk hb3 _t tok0)
    | (refine F.blkLoad (.tmp 2) rfl K2.out rfl rfl ?_)
    | (have _t := tp0; go_at_call 15; refine (P1.out _ (SZ.out.below HB.out)).mono ?_; rintro e w4 ⟨rfl, hb4⟩; replace K2 := Lib.hid (K2.out.below hb4); replace K3 := Lib.hid (K3.out.below hb4); replace K5 := Lib.hid (K5.out.below hb4); replace HB := Lib.hid (below_ext HB.out hb4); have hz4 := hb4.size; clear hb4; have tp1 : True := trivial; clear _t tp0)
    | (have _t := tok1; refine F.rowAlloc 24 rfl _ zero_mark rfl ?_; intro w5 hk hb5 hz5; replace K2 := Lib.hid (K2.out.below hb5); replace K3 := Lib.hid (K3.out.below hb5); replace K5 := Lib.hid (K5.out.below hb5); replace HB := Lib.hid (below_ext HB.out hb5); have K8 := Lib.hid hk; have tok2 : True := trivial; clear hk hb5 _t tok1)
    | (refine F.rowStore (cs := #[.int .u64 ((i1 : Int)), .int .i64 ((r1 : Int)), .int .u64 ((f1 : Int)), .int .u64 ((a1 : Int))]) 24 (.tmp 8) (.tmp 17) rfl K8.out rfl rfl info_mark rfl (ones_mark _ _ _ _) rfl ?_; intro w6 hk hg; replace HB := Lib.hid (below_at HB.out hg (by omega) K8.out.lt); replace K2 := Lib.hid (K2.out.grown hg (by omega)); replace K3 := Lib.hid (K3.out.grown hg (by omega)); replace K5 := Lib.hid (K5.out.grown hg (by omega)); replace K8 := Lib.hid hk; have hz6 := hg.size; clear hk hg)
    | (refine F.blkLoad (.tmp 3) rfl K3.out rfl rfl ?_)
    | (have _t := tp1; go_at_call 15; refine (P2.out _ (SZ.out.below HB.out)).mono ?_; rintro e w7 ⟨rfl, hb7⟩; replace K2 := Lib.hid (K2.out.below hb7); replace K3 := Lib.hid (K3.out.below hb7); replace K5 := Lib.hid (K5.out.below hb7); replace K8 := Lib.hid (K8.out.below hb7); replace HB := Lib.hid (below_ext HB.out hb7); have hz7 := hb7.size; clear hb7; have tp2 : True := trivial; clear _t tp1)
    | (have _t := tok2; refine F.rowAlloc 24 rfl _ zero_mark rfl ?_; intro w8 hk hb8 hz8; replace K2 := Lib.hid (K2.out.below hb8); replace K3 := Lib.hid (K3.out.below hb8); replace K5 := Lib.hid (K5.out.below hb8); replace K8 := Lib.hid (K8.out.below hb8); replace HB := Lib.hid (below_ext HB.out hb8); have K11 := Lib.hid hk; have tok3 : True := trivial; clear hk hb8 _t tok2)
    | (refine F.rowStore (cs := #[.int .u64 ((i2 : Int)), .int .i64 ((r2 : Int)), .int .u64 ((f2 : Int)), .int .u64 ((a2 : Int))]) 24 (.tmp 11) (.tmp 23) rfl K11.out rfl rfl info_mark rfl (ones_mark _ _ _ _) rfl ?_; intro w9 hk hg; replace HB := Lib.hid (below_at HB.out hg (by omega) K11.out.lt); replace K2 := Lib.hid (K2.out.grown hg (by omega)); replace K3 := Lib.hid (K3.out.grown hg (by omega)); replace K5 := Lib.hid (K5.out.grown hg (by omega)); replace K8 := Lib.hid (K8.out.grown hg (by omega)); replace K11 := Lib.hid hk; have hz9 := hg.size; clear hk hg))
  have kc0 := K11.out.cell (o := 0) rfl
  have kc1 := K11.out.cell (o := 1) rfl
  have kc2 := K11.out.cell (o := 2) rfl
  have kc3 := K11.out.cell (o := 3) rfl
  have sc0 := K5.out.cell (o := 0) rfl
  have sc1 := K5.out.cell (o := 1) rfl
  have sc2 := K5.out.cell (o := 2) rfl
  have sc3 := K5.out.cell (o := 3) rfl
  have fz0 := K5.out.free (o := 0)
  have fz1 := K5.out.free (o := 1)
  have fz2 := K5.out.free (o := 2)
  have fz3 := K5.out.free (o := 3)
  have lk := K11.out.lt
  have hne : ¬ (w7.heap.size = w2.heap.size) := by omega
  have hne2 : ¬ (w2.heap.size = w7.heap.size) := by omega
  go_region
  have rr0 := setCell_row (o := 0) (v := .int .u64 ((i2 : Int))) K5.out
  have rr1 := setCell_row (o := 1) (v := .int .i64 ((r2 : Int))) rr0.1
  have rr2 := setCell_row (o := 2) (v := .int .u64 ((f2 : Int))) rr1.1
  have rr3 := setCell_row (o := 3) (v := .int .u64 ((a2 : Int))) rr2.1
  have hle : w.heap.size ≤ w2.heap.size := by omega
  have K9 := Lib.hid (show Row 24 ((((w9.setCell ⟨w2.heap.size, 0, none⟩ (.int .u64 ((i2 : Int)))).setCell ⟨w2.heap.size, 1, none⟩ (.int .i64 ((r2 : Int)))).setCell ⟨w2.heap.size, 2, none⟩ (.int .u64 ((f2 : Int)))).setCell ⟨w2.heap.size, 3, none⟩ (.int .u64 ((a2 : Int)))).drew w2.heap.size #[.int .u64 ((i2 : Int)), .int .i64 ((r2 : Int)), .int .u64 ((f2 : Int)), .int .u64 ((a2 : Int))] from rr3.1)
  have HB9 := Lib.hid (show Below w.heap.size w ((((w9.setCell ⟨w2.heap.size, 0, none⟩ (.int .u64 ((i2 : Int)))).setCell ⟨w2.heap.size, 1, none⟩ (.int .i64 ((r2 : Int)))).setCell ⟨w2.heap.size, 2, none⟩ (.int .u64 ((f2 : Int)))).setCell ⟨w2.heap.size, 3, none⟩ (.int .u64 ((a2 : Int)))).drew from below_drewN ((((HB.out.setCell (p := ⟨w2.heap.size, 0, none⟩) hle _).setCell (p := ⟨w2.heap.size, 1, none⟩) hle _).setCell (p := ⟨w2.heap.size, 2, none⟩) hle _).setCell (p := ⟨w2.heap.size, 3, none⟩) hle _) 1)
  clear rr0 rr1 rr2 rr3 kc0 kc1 kc2 kc3 sc0 sc1 sc2 sc3 fz0 fz1 fz2 fz3 K11 K5
  generalize ((((w9.setCell ⟨w2.heap.size, 0, none⟩ (.int .u64 ((i2 : Int)))).setCell ⟨w2.heap.size, 1, none⟩ (.int .i64 ((r2 : Int)))).setCell ⟨w2.heap.size, 2, none⟩ (.int .u64 ((f2 : Int)))).setCell ⟨w2.heap.size, 3, none⟩ (.int .u64 ((a2 : Int)))).drew = w26 at K9 HB9 ⊢
  go_wp2
  exact bodyPost_ret (v := .tuple #[.int .u64 ((m : Int)), .agg #[.int .u64 ((i2 : Int)), .int .i64 ((r2 : Int)), .int .u64 ((f2 : Int)), .int .u64 ((a2 : Int))], .int .i64 0]) (ret_mark rfl _ _ rfl K9.out rfl rfl rfl) rfl ⟨rfl, HB9.out⟩
set_option maxRecDepth 100000 in
set_option maxHeartbeats 2000000 in
theorem rNew_D (xs ys : List Int) (HX : Hid (xs.length = 64)) (HY : Hid (ys.length = 64)) (n i1 r1 f1 a1 m i2 r2 f2 a2 : Nat) (ea k : Int) (h : ¬ n < m)
    (P1 : Hid (∀ w : World, Siz w → Calls Tryd.prog 15 #[blk xs] w fun e w' => e = .returned (.tuple #[.int .u64 ((n : Int)), .agg #[.int .u64 ((i1 : Int)), .int .i64 ((r1 : Int)), .int .u64 ((f1 : Int)), .int .u64 ((a1 : Int))], .int .i64 0]) ∧ Below w.heap.size w w'))
    (P2 : Hid (∀ w : World, Siz w → Calls Tryd.prog 15 #[blk ys] w fun e w' => e = .returned (.tuple #[.int .u64 ((m : Int)), .agg #[.int .u64 ((i2 : Int)), .int .i64 ((r2 : Int)), .int .u64 ((f2 : Int)), .int .u64 ((a2 : Int))], .int .i64 0]) ∧ Below w.heap.size w w')) (w : World) (SZ : Hid (Siz w)) :
    Calls Tryd.prog 18 #[blk xs, blk ys] w fun e w' => e = .returned (.tuple #[.int .u64 ((n : Int)), .agg #[.int .u64 ((i1 : Int)), .int .i64 ((r1 : Int)), .int .u64 ((f1 : Int)), .int .u64 ((a1 : Int))], .int .i64 0]) ∧ Below w.heap.size w w' := by
  have HB := Lib.hid (Below.refl w.heap.size w)
  have g1 : decide (n < m) = false := by simp; omega
  have g2 : decide ((n : Int) < (m : Int)) = false := by simp; omega
  have tok0 : True := trivial
  have tp0 : True := trivial
  go_enter Tryd.func18, Tryd.ntmps18
  go_wp2_with (first
    | (go_skip)
    | (refine F.blkBox (.tmp 0) rfl rfl HX.out rfl ?_; intro w1 hk hb1 hz1; replace HB := Lib.hid (below_ext HB.out hb1); have K2 := Lib.hid hk; clear hk hb1)
    | (refine F.blkBox (.tmp 1) rfl rfl HY.out rfl ?_; intro w2 hk hb2 hz2; replace K2 := Lib.hid (K2.out.below hb2); replace HB := Lib.hid (below_ext HB.out hb2); have K3 := Lib.hid hk; clear hk hb2)
    | (have _t := tok0; refine F.rowAlloc 24 rfl _ zero_mark rfl ?_; intro w3 hk hb3 hz3; replace K2 := Lib.hid (K2.out.below hb3); replace K3 := Lib.hid (K3.out.below hb3); replace HB := Lib.hid (below_ext HB.out hb3); have K5 := Lib.hid hk; have tok1 : True := trivial; clear hk hb3 _t tok0)
    | (refine F.blkLoad (.tmp 2) rfl K2.out rfl rfl ?_)
    | (have _t := tp0; go_at_call 15; refine (P1.out _ (SZ.out.below HB.out)).mono ?_; rintro e w4 ⟨rfl, hb4⟩; replace K2 := Lib.hid (K2.out.below hb4); replace K3 := Lib.hid (K3.out.below hb4); replace K5 := Lib.hid (K5.out.below hb4); replace HB := Lib.hid (below_ext HB.out hb4); have hz4 := hb4.size; clear hb4; have tp1 : True := trivial; clear _t tp0)
    | (have _t := tok1; refine F.rowAlloc 24 rfl _ zero_mark rfl ?_; intro w5 hk hb5 hz5; replace K2 := Lib.hid (K2.out.below hb5); replace K3 := Lib.hid (K3.out.below hb5); replace K5 := Lib.hid (K5.out.below hb5); replace HB := Lib.hid (below_ext HB.out hb5); have K8 := Lib.hid hk; have tok2 : True := trivial; clear hk hb5 _t tok1)
    | (refine F.rowStore (cs := #[.int .u64 ((i1 : Int)), .int .i64 ((r1 : Int)), .int .u64 ((f1 : Int)), .int .u64 ((a1 : Int))]) 24 (.tmp 8) (.tmp 17) rfl K8.out rfl rfl info_mark rfl (ones_mark _ _ _ _) rfl ?_; intro w6 hk hg; replace HB := Lib.hid (below_at HB.out hg (by omega) K8.out.lt); replace K2 := Lib.hid (K2.out.grown hg (by omega)); replace K3 := Lib.hid (K3.out.grown hg (by omega)); replace K5 := Lib.hid (K5.out.grown hg (by omega)); replace K8 := Lib.hid hk; have hz6 := hg.size; clear hk hg)
    | (refine F.blkLoad (.tmp 3) rfl K3.out rfl rfl ?_)
    | (have _t := tp1; go_at_call 15; refine (P2.out _ (SZ.out.below HB.out)).mono ?_; rintro e w7 ⟨rfl, hb7⟩; replace K2 := Lib.hid (K2.out.below hb7); replace K3 := Lib.hid (K3.out.below hb7); replace K5 := Lib.hid (K5.out.below hb7); replace K8 := Lib.hid (K8.out.below hb7); replace HB := Lib.hid (below_ext HB.out hb7); have hz7 := hb7.size; clear hb7; have tp2 : True := trivial; clear _t tp1)
    | (have _t := tok2; refine F.rowAlloc 24 rfl _ zero_mark rfl ?_; intro w8 hk hb8 hz8; replace K2 := Lib.hid (K2.out.below hb8); replace K3 := Lib.hid (K3.out.below hb8); replace K5 := Lib.hid (K5.out.below hb8); replace K8 := Lib.hid (K8.out.below hb8); replace HB := Lib.hid (below_ext HB.out hb8); have K11 := Lib.hid hk; have tok3 : True := trivial; clear hk hb8 _t tok2)
    | (refine F.rowStore (cs := #[.int .u64 ((i2 : Int)), .int .i64 ((r2 : Int)), .int .u64 ((f2 : Int)), .int .u64 ((a2 : Int))]) 24 (.tmp 11) (.tmp 23) rfl K11.out rfl rfl info_mark rfl (ones_mark _ _ _ _) rfl ?_; intro w9 hk hg; replace HB := Lib.hid (below_at HB.out hg (by omega) K11.out.lt); replace K2 := Lib.hid (K2.out.grown hg (by omega)); replace K3 := Lib.hid (K3.out.grown hg (by omega)); replace K5 := Lib.hid (K5.out.grown hg (by omega)); replace K8 := Lib.hid (K8.out.grown hg (by omega)); replace K11 := Lib.hid hk; have hz9 := hg.size; clear hk hg))
  have kc0 := K8.out.cell (o := 0) rfl
  have kc1 := K8.out.cell (o := 1) rfl
  have kc2 := K8.out.cell (o := 2) rfl
  have kc3 := K8.out.cell (o := 3) rfl
  have sc0 := K5.out.cell (o := 0) rfl
  have sc1 := K5.out.cell (o := 1) rfl
  have sc2 := K5.out.cell (o := 2) rfl
  have sc3 := K5.out.cell (o := 3) rfl
  have fz0 := K5.out.free (o := 0)
  have fz1 := K5.out.free (o := 1)
  have fz2 := K5.out.free (o := 2)
  have fz3 := K5.out.free (o := 3)
  have lk := K8.out.lt
  have hne : ¬ (w4.heap.size = w2.heap.size) := by omega
  have hne2 : ¬ (w2.heap.size = w4.heap.size) := by omega
  go_region
  have rr0 := setCell_row (o := 0) (v := .int .u64 ((i1 : Int))) K5.out
  have rr1 := setCell_row (o := 1) (v := .int .i64 ((r1 : Int))) rr0.1
  have rr2 := setCell_row (o := 2) (v := .int .u64 ((f1 : Int))) rr1.1
  have rr3 := setCell_row (o := 3) (v := .int .u64 ((a1 : Int))) rr2.1
  have hle : w.heap.size ≤ w2.heap.size := by omega
  have K9 := Lib.hid (show Row 24 ((((w9.setCell ⟨w2.heap.size, 0, none⟩ (.int .u64 ((i1 : Int)))).setCell ⟨w2.heap.size, 1, none⟩ (.int .i64 ((r1 : Int)))).setCell ⟨w2.heap.size, 2, none⟩ (.int .u64 ((f1 : Int)))).setCell ⟨w2.heap.size, 3, none⟩ (.int .u64 ((a1 : Int)))).drew w2.heap.size #[.int .u64 ((i1 : Int)), .int .i64 ((r1 : Int)), .int .u64 ((f1 : Int)), .int .u64 ((a1 : Int))] from rr3.1)
  have HB9 := Lib.hid (show Below w.heap.size w ((((w9.setCell ⟨w2.heap.size, 0, none⟩ (.int .u64 ((i1 : Int)))).setCell ⟨w2.heap.size, 1, none⟩ (.int .i64 ((r1 : Int)))).setCell ⟨w2.heap.size, 2, none⟩ (.int .u64 ((f1 : Int)))).setCell ⟨w2.heap.size, 3, none⟩ (.int .u64 ((a1 : Int)))).drew from below_drewN ((((HB.out.setCell (p := ⟨w2.heap.size, 0, none⟩) hle _).setCell (p := ⟨w2.heap.size, 1, none⟩) hle _).setCell (p := ⟨w2.heap.size, 2, none⟩) hle _).setCell (p := ⟨w2.heap.size, 3, none⟩) hle _) 1)
  clear rr0 rr1 rr2 rr3 kc0 kc1 kc2 kc3 sc0 sc1 sc2 sc3 fz0 fz1 fz2 fz3 K8 K5
  generalize ((((w9.setCell ⟨w2.heap.size, 0, none⟩ (.int .u64 ((i1 : Int)))).setCell ⟨w2.heap.size, 1, none⟩ (.int .i64 ((r1 : Int)))).setCell ⟨w2.heap.size, 2, none⟩ (.int .u64 ((f1 : Int)))).setCell ⟨w2.heap.size, 3, none⟩ (.int .u64 ((a1 : Int)))).drew = w26 at K9 HB9 ⊢
  go_wp2
  exact bodyPost_ret (v := .tuple #[.int .u64 ((n : Int)), .agg #[.int .u64 ((i1 : Int)), .int .i64 ((r1 : Int)), .int .u64 ((f1 : Int)), .int .u64 ((a1 : Int))], .int .i64 0]) (ret_mark rfl _ _ rfl K9.out rfl rfl rfl) rfl ⟨rfl, HB9.out⟩
set_option maxRecDepth 100000 in
set_option maxHeartbeats 2000000 in
theorem rNew_E (xs ys : List Int) (HX : Hid (xs.length = 64)) (HY : Hid (ys.length = 64)) (n i1 r1 f1 a1 m i2 r2 f2 a2 : Nat) (ea k : Int) (hk : (k != 0) = true) (hk2 : (k == 0) = false)
    (P1 : Hid (∀ w : World, Siz w → Calls Tryd.prog 15 #[blk xs] w fun e w' => e = .returned (.tuple #[.int .u64 ((n : Int)), .agg #[.int .u64 ((i1 : Int)), .int .i64 ((r1 : Int)), .int .u64 ((f1 : Int)), .int .u64 ((a1 : Int))], .int .i64 0]) ∧ Below w.heap.size w w'))
    (P2 : Hid (∀ w : World, Siz w → Calls Tryd.prog 15 #[blk ys] w fun e w' => e = .returned (.tuple #[.int .u64 ((m : Int)), .agg #[.int .u64 ((i2 : Int)), .int .i64 ((r2 : Int)), .int .u64 ((f2 : Int)), .int .u64 ((a2 : Int))], .int .i64 k]) ∧ Below w.heap.size w w')) (w : World) (SZ : Hid (Siz w)) :
    Calls Tryd.prog 18 #[blk xs, blk ys] w fun e w' => e = .returned (.tuple #[.int .u64 ((n : Int)), .agg #[.int .u64 ((i1 : Int)), .int .i64 ((r1 : Int)), .int .u64 ((f1 : Int)), .int .u64 ((a1 : Int))], .int .i64 0]) ∧ Below w.heap.size w w' := by
  have HB := Lib.hid (Below.refl w.heap.size w)
  have tok0 : True := trivial
  have tp0 : True := trivial
  go_enter Tryd.func18, Tryd.ntmps18
  go_wp2_with (first
    | (go_skip)
    | (refine F.blkBox (.tmp 0) rfl rfl HX.out rfl ?_; intro w1 hk hb1 hz1; replace HB := Lib.hid (below_ext HB.out hb1); have K2 := Lib.hid hk; clear hk hb1)
    | (refine F.blkBox (.tmp 1) rfl rfl HY.out rfl ?_; intro w2 hk hb2 hz2; replace K2 := Lib.hid (K2.out.below hb2); replace HB := Lib.hid (below_ext HB.out hb2); have K3 := Lib.hid hk; clear hk hb2)
    | (have _t := tok0; refine F.rowAlloc 24 rfl _ zero_mark rfl ?_; intro w3 hk hb3 hz3; replace K2 := Lib.hid (K2.out.below hb3); replace K3 := Lib.hid (K3.out.below hb3); replace HB := Lib.hid (below_ext HB.out hb3); have K5 := Lib.hid hk; have tok1 : True := trivial; clear hk hb3 _t tok0)
    | (refine F.blkLoad (.tmp 2) rfl K2.out rfl rfl ?_)
    | (have _t := tp0; go_at_call 15; refine (P1.out _ (SZ.out.below HB.out)).mono ?_; rintro e w4 ⟨rfl, hb4⟩; replace K2 := Lib.hid (K2.out.below hb4); replace K3 := Lib.hid (K3.out.below hb4); replace K5 := Lib.hid (K5.out.below hb4); replace HB := Lib.hid (below_ext HB.out hb4); have hz4 := hb4.size; clear hb4; have tp1 : True := trivial; clear _t tp0)
    | (have _t := tok1; refine F.rowAlloc 24 rfl _ zero_mark rfl ?_; intro w5 hk hb5 hz5; replace K2 := Lib.hid (K2.out.below hb5); replace K3 := Lib.hid (K3.out.below hb5); replace K5 := Lib.hid (K5.out.below hb5); replace HB := Lib.hid (below_ext HB.out hb5); have K8 := Lib.hid hk; have tok2 : True := trivial; clear hk hb5 _t tok1)
    | (refine F.rowStore (cs := #[.int .u64 ((i1 : Int)), .int .i64 ((r1 : Int)), .int .u64 ((f1 : Int)), .int .u64 ((a1 : Int))]) 24 (.tmp 8) (.tmp 17) rfl K8.out rfl rfl info_mark rfl (ones_mark _ _ _ _) rfl ?_; intro w6 hk hg; replace HB := Lib.hid (below_at HB.out hg (by omega) K8.out.lt); replace K2 := Lib.hid (K2.out.grown hg (by omega)); replace K3 := Lib.hid (K3.out.grown hg (by omega)); replace K5 := Lib.hid (K5.out.grown hg (by omega)); replace K8 := Lib.hid hk; have hz6 := hg.size; clear hk hg)
    | (refine F.blkLoad (.tmp 3) rfl K3.out rfl rfl ?_)
    | (have _t := tp1; go_at_call 15; refine (P2.out _ (SZ.out.below HB.out)).mono ?_; rintro e w7 ⟨rfl, hb7⟩; replace K2 := Lib.hid (K2.out.below hb7); replace K3 := Lib.hid (K3.out.below hb7); replace K5 := Lib.hid (K5.out.below hb7); replace K8 := Lib.hid (K8.out.below hb7); replace HB := Lib.hid (below_ext HB.out hb7); have hz7 := hb7.size; clear hb7; have tp2 : True := trivial; clear _t tp1)
    | (have _t := tok2; refine F.rowAlloc 24 rfl _ zero_mark rfl ?_; intro w8 hk hb8 hz8; replace K2 := Lib.hid (K2.out.below hb8); replace K3 := Lib.hid (K3.out.below hb8); replace K5 := Lib.hid (K5.out.below hb8); replace K8 := Lib.hid (K8.out.below hb8); replace HB := Lib.hid (below_ext HB.out hb8); have K11 := Lib.hid hk; have tok3 : True := trivial; clear hk hb8 _t tok2)
    | (refine F.rowStore (cs := #[.int .u64 ((i2 : Int)), .int .i64 ((r2 : Int)), .int .u64 ((f2 : Int)), .int .u64 ((a2 : Int))]) 24 (.tmp 11) (.tmp 23) rfl K11.out rfl rfl info_mark rfl (ones_mark _ _ _ _) rfl ?_; intro w9 hk hg; replace HB := Lib.hid (below_at HB.out hg (by omega) K11.out.lt); replace K2 := Lib.hid (K2.out.grown hg (by omega)); replace K3 := Lib.hid (K3.out.grown hg (by omega)); replace K5 := Lib.hid (K5.out.grown hg (by omega)); replace K8 := Lib.hid (K8.out.grown hg (by omega)); replace K11 := Lib.hid hk; have hz9 := hg.size; clear hk hg))
  have kc0 := K8.out.cell (o := 0) rfl
  have kc1 := K8.out.cell (o := 1) rfl
  have kc2 := K8.out.cell (o := 2) rfl
  have kc3 := K8.out.cell (o := 3) rfl
  have sc0 := K5.out.cell (o := 0) rfl
  have sc1 := K5.out.cell (o := 1) rfl
  have sc2 := K5.out.cell (o := 2) rfl
  have sc3 := K5.out.cell (o := 3) rfl
  have fz0 := K5.out.free (o := 0)
  have fz1 := K5.out.free (o := 1)
  have fz2 := K5.out.free (o := 2)
  have fz3 := K5.out.free (o := 3)
  have lk := K8.out.lt
  have hne : ¬ (w4.heap.size = w2.heap.size) := by omega
  have hne2 : ¬ (w2.heap.size = w4.heap.size) := by omega
  go_region
  have rr0 := setCell_row (o := 0) (v := .int .u64 ((i1 : Int))) K5.out
  have rr1 := setCell_row (o := 1) (v := .int .i64 ((r1 : Int))) rr0.1
  have rr2 := setCell_row (o := 2) (v := .int .u64 ((f1 : Int))) rr1.1
  have rr3 := setCell_row (o := 3) (v := .int .u64 ((a1 : Int))) rr2.1
  have hle : w.heap.size ≤ w2.heap.size := by omega
  have K9 := Lib.hid (show Row 24 ((((w9.setCell ⟨w2.heap.size, 0, none⟩ (.int .u64 ((i1 : Int)))).setCell ⟨w2.heap.size, 1, none⟩ (.int .i64 ((r1 : Int)))).setCell ⟨w2.heap.size, 2, none⟩ (.int .u64 ((f1 : Int)))).setCell ⟨w2.heap.size, 3, none⟩ (.int .u64 ((a1 : Int)))).drew w2.heap.size #[.int .u64 ((i1 : Int)), .int .i64 ((r1 : Int)), .int .u64 ((f1 : Int)), .int .u64 ((a1 : Int))] from rr3.1)
  have HB9 := Lib.hid (show Below w.heap.size w ((((w9.setCell ⟨w2.heap.size, 0, none⟩ (.int .u64 ((i1 : Int)))).setCell ⟨w2.heap.size, 1, none⟩ (.int .i64 ((r1 : Int)))).setCell ⟨w2.heap.size, 2, none⟩ (.int .u64 ((f1 : Int)))).setCell ⟨w2.heap.size, 3, none⟩ (.int .u64 ((a1 : Int)))).drew from below_drewN ((((HB.out.setCell (p := ⟨w2.heap.size, 0, none⟩) hle _).setCell (p := ⟨w2.heap.size, 1, none⟩) hle _).setCell (p := ⟨w2.heap.size, 2, none⟩) hle _).setCell (p := ⟨w2.heap.size, 3, none⟩) hle _) 1)
  clear rr0 rr1 rr2 rr3 kc0 kc1 kc2 kc3 sc0 sc1 sc2 sc3 fz0 fz1 fz2 fz3 K8 K5
  generalize ((((w9.setCell ⟨w2.heap.size, 0, none⟩ (.int .u64 ((i1 : Int)))).setCell ⟨w2.heap.size, 1, none⟩ (.int .i64 ((r1 : Int)))).setCell ⟨w2.heap.size, 2, none⟩ (.int .u64 ((f1 : Int)))).setCell ⟨w2.heap.size, 3, none⟩ (.int .u64 ((a1 : Int)))).drew = w26 at K9 HB9 ⊢
  go_wp2
  exact bodyPost_ret (v := .tuple #[.int .u64 ((n : Int)), .agg #[.int .u64 ((i1 : Int)), .int .i64 ((r1 : Int)), .int .u64 ((f1 : Int)), .int .u64 ((a1 : Int))], .int .i64 0]) (ret_mark rfl _ _ rfl K9.out rfl rfl rfl) rfl ⟨rfl, HB9.out⟩
theorem rNewest_mark (xs ys : List Int) (hl : xs.length = 64) (hw : Wf8 xs) (kl : ys.length = 64) (kw : Wf8 ys) (w : World) (SZ : Siz w) :
    Calls Tryd.prog 18 #[blk xs, blk ys] w fun e w' => e = .returned (.tuple #[.int .u64 ((newM (gotM xs) (gotM ys)).1.1 : Int), magg (newM (gotM xs) (gotM ys)).1.2.1 ((newM (gotM xs) (gotM ys)).1.2.2.1 : Int) (newM (gotM xs) (gotM ys)).1.2.2.2.1 (newM (gotM xs) (gotM ys)).1.2.2.2.2, .int .i64 (newM (gotM xs) (gotM ys)).2]) ∧ Below w.heap.size w w' := by
  have p1 := fun (w : World) (SZ : Siz w) => rGet_mark xs hl hw w
  have p2 := fun (w : World) (SZ : Siz w) => rGet_mark ys kl kw w
  generalize gotM xs = p at *
  generalize gotM ys = q at *
  obtain ⟨⟨n, i1, r1, f1, a1⟩, e⟩ := p
  obtain ⟨⟨m, i2, r2, f2, a2⟩, k⟩ := q
  by_cases he : e = 0
  · subst he
    by_cases hk : k = 0
    · subst hk
      by_cases h : n < m
      · rw [show newM ((n, i1, r1, f1, a1), 0) ((m, i2, r2, f2, a2), 0) = ((m, i2, r2, f2, a2), 0) by simp [newM, h]]
        exact rNew_C xs ys (Lib.hid hl) (Lib.hid kl) n i1 r1 f1 a1 m i2 r2 f2 a2 0 0 h (Lib.hid p1) (Lib.hid p2) w (Lib.hid SZ)
      · rw [show newM ((n, i1, r1, f1, a1), 0) ((m, i2, r2, f2, a2), 0) = ((n, i1, r1, f1, a1), 0) by simp [newM, h]]
        exact rNew_D xs ys (Lib.hid hl) (Lib.hid kl) n i1 r1 f1 a1 m i2 r2 f2 a2 0 0 h (Lib.hid p1) (Lib.hid p2) w (Lib.hid SZ)
    · rw [show newM ((n, i1, r1, f1, a1), 0) ((m, i2, r2, f2, a2), k) = ((n, i1, r1, f1, a1), 0) by simp [newM, hk]]
      exact rNew_E xs ys (Lib.hid hl) (Lib.hid kl) n i1 r1 f1 a1 m i2 r2 f2 a2 0 k (bne_iff_ne.2 hk) (by simpa using hk) (Lib.hid p1) (Lib.hid p2) w (Lib.hid SZ)
  · by_cases hk : k = 0
    · subst hk
      rw [show newM ((n, i1, r1, f1, a1), e) ((m, i2, r2, f2, a2), 0) = ((m, i2, r2, f2, a2), 0) by simp [newM, he]]
      exact rNew_B xs ys (Lib.hid hl) (Lib.hid kl) n i1 r1 f1 a1 m i2 r2 f2 a2 e 0 (bne_iff_ne.2 he) (Lib.hid p1) (Lib.hid p2) w (Lib.hid SZ)
    · rw [show newM ((n, i1, r1, f1, a1), e) ((m, i2, r2, f2, a2), k) = ((0, 0, 0, 0, 0), 7) by simp [newM, he, hk]]
      exact rNew_A xs ys (Lib.hid hl) (Lib.hid kl) n i1 r1 f1 a1 m i2 r2 f2 a2 e k (bne_iff_ne.2 he) (bne_iff_ne.2 hk) (Lib.hid p1) (Lib.hid p2) w (Lib.hid SZ)
end Go.Proofs.YtdchcggllcgokaaDoor.K

namespace Go.Proofs.YtdchcggllcgokaaDoor.K
open Go.RowKit Go.Proofs.YtdchcggllcgokaaDoor.L Go.Proofs.YtdchcggllcgokaaDoor.U Go.Proofs.YtdchcggllcgokaaDoor.R Go.Proofs.YtdchcggllcgokaaDoor.E Go.Proofs.YtdchcggllcgokaaDoorW.PrintWords
set_option linter.unusedVariables false
set_option linter.unusedSimpArgs false
set_option maxRecDepth 100000 in
theorem one_any (w : World) : Calls Tryd.prog 22 #[] w fun e w' => e = .returned (.agg #[.int .u64 9, .int .i64 40, .int .u64 1, .int .u64 0]) ∧ Below w.heap.size w w' := by
  have HB := Lib.hid (Below.refl w.heap.size w)
  have tok0 : True := trivial
  have tp0 : True := trivial
  go_enter Tryd.func22, Tryd.ntmps22
  go_wp2_with (first
    | (go_skip)
    | (have _t := tok0; refine F.rowAlloc 24 rfl _ zero_mark rfl ?_; intro w1 hk hb1 hz1; replace HB := Lib.hid (below_ext HB.out hb1); have K0 := Lib.hid hk; have tok1 : True := trivial; clear hk hb1 _t tok0)
    | (refine F.rowStore (cs := #[.int .u64 (9), .int .i64 (40), .int .u64 (1), .int .u64 (0)]) 24 (.tmp 0) (.tmp 1) rfl K0.out rfl rfl info_mark rfl (ones_mark _ _ _ _) rfl ?_; intro w2 hk hg; replace HB := Lib.hid (below_at HB.out hg (by omega) K0.out.lt); replace K0 := Lib.hid hk; have hz2 := hg.size; clear hk hg))
  exact bodyPost_ret (v := .agg #[.int .u64 9, .int .i64 40, .int .u64 1, .int .u64 0]) (results_cell_row rfl _ _ _ _ _ (0, 0) _ rfl K0.out Tryd.underlying24 rfl (by rw [info_mark]; rfl)) rfl ⟨rfl, HB.out⟩
set_option maxRecDepth 100000 in
set_option maxHeartbeats 2000000 in
theorem lives_walk (G : List Int) (HG : Hid (G.length = 64)) (HZ : Hid (zeros.length = 64))
    (P1 : Hid (∀ w : World, Siz w → Calls Tryd.prog 7 #[.int .u64 1, .agg #[.int .u64 (9), .int .i64 (40), .int .u64 (1), .int .u64 (0)]] w fun e w' => e = .returned (.tuple #[blk G, .int .i64 0]) ∧ Below w.heap.size w w'))
    (P2 : Hid (∀ w : World, Siz w → Calls Tryd.prog 7 #[.int .u64 1, .agg #[.int .u64 (0), .int .i64 (0), .int .u64 (0), .int .u64 (0)]] w fun e w' => e = .returned (.tuple #[blk zeros, .int .i64 2]) ∧ Below w.heap.size w w'))
    (P3 : Hid (∀ w : World, Siz w → Calls Tryd.prog 14 #[blk G] w fun e w' => e = .returned (.tuple #[.int .u64 (1), .agg #[.int .u64 (9), .int .i64 (40), .int .u64 (1), .int .u64 (0)], .int .i64 0]) ∧ Below w.heap.size w w'))
    (P4 : Hid (∀ w : World, Siz w → Calls Tryd.prog 17 #[blk G, blk zeros] w fun e w' => e = .returned (.tuple #[.int .u64 (1), .agg #[.int .u64 (9), .int .i64 (40), .int .u64 (1), .int .u64 (0)], .int .i64 0]) ∧ Below w.heap.size w w')) (w : World) (SZ : Hid (Siz w)) :
    Calls Tryd.prog 13 #[] w fun e w' => e = .returned (.bool true) ∧ Below w.heap.size w w' := by
  have HB := Lib.hid (Below.refl w.heap.size w)
  have tok0 : True := trivial
  have tp0 : True := trivial
  go_enter Tryd.func13, Tryd.ntmps13
  go_wp2_with (first
    | (go_skip)
    | (have _t := tp0; go_at_call 22; refine (one_any _).mono ?_; rintro e w1 ⟨rfl, hb1⟩; replace HB := Lib.hid (below_ext HB.out hb1); have hz1 := hb1.size; clear hb1; have tp1 : True := trivial; clear _t tp0)
    | (have _t := tp1; go_at_call 7; refine (P1.out _ (SZ.out.below HB.out)).mono ?_; rintro e w2 ⟨rfl, hb2⟩; replace HB := Lib.hid (below_ext HB.out hb2); have hz2 := hb2.size; clear hb2; have tp2 : True := trivial; clear _t tp1)
    | (have _t := tok0; refine F.blkAlloc rfl rfl ?_; intro w3 hk hb3 hz3; replace HB := Lib.hid (below_ext HB.out hb3); have K1 := Lib.hid hk; have tok1 : True := trivial; clear hk hb3 _t tok0)
    | (refine F.blkStore (.tmp 1) (.tmp 14) rfl K1.out rfl rfl HG.out rfl ?_; intro w4 hk hg; replace HB := Lib.hid (below_at HB.out hg (by omega) K1.out.lt); replace K1 := Lib.hid hk; have hz4 := hg.size; clear hk hg)
    | (have _t := tp2; go_at_call 7; refine (P2.out _ (SZ.out.below HB.out)).mono ?_; rintro e w5 ⟨rfl, hb5⟩; replace K1 := Lib.hid (K1.out.below hb5); replace HB := Lib.hid (below_ext HB.out hb5); have hz5 := hb5.size; clear hb5; have tp3 : True := trivial; clear _t tp2)
    | (have _t := tok1; refine F.blkAlloc rfl rfl ?_; intro w6 hk hb6 hz6; replace K1 := Lib.hid (K1.out.below hb6); replace HB := Lib.hid (below_ext HB.out hb6); have K3 := Lib.hid hk; have tok2 : True := trivial; clear hk hb6 _t tok1)
    | (refine F.blkStore (.tmp 3) (.tmp 19) rfl K3.out rfl rfl HZ.out rfl ?_; intro w7 hk hg; replace HB := Lib.hid (below_at HB.out hg (by omega) K3.out.lt); replace K1 := Lib.hid (K1.out.grown hg (by omega)); replace K3 := Lib.hid hk; have hz7 := hg.size; clear hk hg)
    | (refine F.blkLoad (.tmp 1) rfl K1.out rfl rfl ?_)
    | (have _t := tp3; go_at_call 14; refine (P3.out _ (SZ.out.below HB.out)).mono ?_; rintro e w8 ⟨rfl, hb8⟩; replace K1 := Lib.hid (K1.out.below hb8); replace K3 := Lib.hid (K3.out.below hb8); replace HB := Lib.hid (below_ext HB.out hb8); have hz8 := hb8.size; clear hb8; have tp4 : True := trivial; clear _t tp3)
    | (have _t := tok2; refine F.rowAlloc 24 rfl _ zero_mark rfl ?_; intro w9 hk hb9 hz9; replace K1 := Lib.hid (K1.out.below hb9); replace K3 := Lib.hid (K3.out.below hb9); replace HB := Lib.hid (below_ext HB.out hb9); have K6 := Lib.hid hk; have tok3 : True := trivial; clear hk hb9 _t tok2)
    | (refine F.rowStore (cs := #[.int .u64 (9), .int .i64 (40), .int .u64 (1), .int .u64 (0)]) 24 (.tmp 6) (.tmp 25) rfl K6.out rfl rfl info_mark rfl (ones_mark _ _ _ _) rfl ?_; intro w10 hk hg; replace HB := Lib.hid (below_at HB.out hg (by omega) K6.out.lt); replace K1 := Lib.hid (K1.out.grown hg (by omega)); replace K3 := Lib.hid (K3.out.grown hg (by omega)); replace K6 := Lib.hid hk; have hz10 := hg.size; clear hk hg)
    | (refine F.blkBuild rfl rfl ?_)
    | (have _t := tp4; go_at_call 17; refine (P4.out _ (SZ.out.below HB.out)).mono ?_; rintro e w11 ⟨rfl, hb11⟩; replace K1 := Lib.hid (K1.out.below hb11); replace K3 := Lib.hid (K3.out.below hb11); replace K6 := Lib.hid (K6.out.below hb11); replace HB := Lib.hid (below_ext HB.out hb11); have hz11 := hb11.size; clear hb11; have tp5 : True := trivial; clear _t tp4)
    | (have _t := tok3; refine F.rowAlloc 24 rfl _ zero_mark rfl ?_; intro w12 hk hb12 hz12; replace K1 := Lib.hid (K1.out.below hb12); replace K3 := Lib.hid (K3.out.below hb12); replace K6 := Lib.hid (K6.out.below hb12); replace HB := Lib.hid (below_ext HB.out hb12); have K9 := Lib.hid hk; have tok4 : True := trivial; clear hk hb12 _t tok3)
    | (refine F.rowStore (cs := #[.int .u64 (9), .int .i64 (40), .int .u64 (1), .int .u64 (0)]) 24 (.tmp 9) (.tmp 32) rfl K9.out rfl rfl info_mark rfl (ones_mark _ _ _ _) rfl ?_; intro w13 hk hg; replace HB := Lib.hid (below_at HB.out hg (by omega) K9.out.lt); replace K1 := Lib.hid (K1.out.grown hg (by omega)); replace K3 := Lib.hid (K3.out.grown hg (by omega)); replace K6 := Lib.hid (K6.out.grown hg (by omega)); replace K9 := Lib.hid hk; have hz13 := hg.size; clear hk hg))
  have qK6 := K6.out.later
  have tq0 : True := trivial
  refine wp_region_cls (fun w9 => ∃ x : Later w13, w9 = x.w) (by kernel_rfl) (by kernel_rfl) (Later.drew _) ?_
  repeat (first
    | go_big_quiet_skip
    | (refine qRowLoad rfl 24 (.tmp 6) rfl qK6 rfl Tryd.underlying24 rfl info_mark ?_; simp only [Act.put, List.setIfInBounds_toArray, List.set_cons_zero, List.set_cons_succ])
    | (refine quiet_val rfl _ (fun w _ => run_markEql (.tmp 45) (.tmp 46) _ rfl rfl rfl true (by decide) w) ?_; simp only [Act.put, List.setIfInBounds_toArray, List.set_cons_zero, List.set_cons_succ])
    | (have _t := tq0; refine qAt 22 rfl ?_; go_big_quiet_want; go_big_quiet_op; apply Exists.intro; refine ⟨fun x => ?_, ?_⟩; (· refine (one_any _).mono ?_; rintro e x2 ⟨rfl, hb⟩; exact ⟨rfl, x.ext hb⟩); go_big_quiet_on; have tq1 : True := trivial; clear _t tq0)
    | (have _t := tq1; refine qAt 11 rfl ?_; go_big_quiet_want; go_big_quiet_op; apply Exists.intro; refine ⟨fun x => ?_, ?_⟩; (· refine (Slot_any 4 (by decide) _).mono ?_; rintro e x2 ⟨rfl, hb⟩; exact ⟨rfl, x.ext hb⟩); go_big_quiet_on; have tq2 : True := trivial; clear _t tq1)
    | (go_big_quiet_want; go_big_quiet_op; go_big_quiet_on))
  refine wpQuiet_nil ?_
  rintro w9 ⟨⟨x9, h9⟩, rfl⟩
  have hb9 := below_ext HB.out h9
  clear h9
  go_wp2
  go_ret
  exact ⟨rfl, hb9⟩
theorem gotM_zeros : gotM zeros = ((0, 0, 0, 0, 0), 5) := by
  have h : gots zeros = (0, [], 5) := by
    unfold gots
    rw [if_pos (.inl (by decide))]
  rw [gotM_err (by rw [h]; decide), h]
theorem lives_any (w : World) (SZ : Siz w) : Calls Tryd.prog 13 #[] w fun e w' => e = .returned (.bool true) ∧ Below w.heap.size w w' := by
  have hk : okM 1 9 ((40 : Nat) : Int) 1 0 = true := by decide
  have hl : (sealed 1 (mbody 9 40 1 0)).length = 64 := sealed_length (by rw [mbody_length]; omega)
  have hw : Wf8 (sealed 1 (mbody 9 40 1 0)) := sealed_wf 1 (mbody_wf 9 40 1 0)
  have p1 := fun w (SZ : Siz w) => Put_any 1 9 ((40 : Nat) : Int) 1 0 (by omega) (by omega) ⟨by omega, by omega⟩ (by omega) (by omega) w SZ
  rw [mark_ok hk] at p1
  have p2 := fun w (SZ : Siz w) => Put_any 1 0 0 0 0 (by omega) (by omega) ⟨by omega, by omega⟩ (by omega) (by omega) w SZ
  rw [mark_no (n := 1) (i := 0) (r := 0) (f := 0) (a := 0) (by decide)] at p2
  have p3 := fun w (SZ : Siz w) => Get_mark _ hl hw w SZ
  have p4 := fun w (SZ : Siz w) => Newest_mark _ zeros hl hw zeros_length (by intro x hx; rw [zeros, List.mem_replicate] at hx; rw [hx.2]; decide) w SZ
  rw [gotM_put hk (by omega) (by omega) (by omega)] at p3 p4
  rw [gotM_zeros] at p4
  rw [show newM ((1, 9, 40, 1, 0), 0) ((0, 0, 0, 0, 0), 5) = ((1, 9, 40, 1, 0), 0) by decide] at p4
  generalize sealed 1 (mbody 9 40 1 0) = G at *
  exact lives_walk G (Lib.hid hl) (Lib.hid zeros_length) (Lib.hid p1) (Lib.hid p2) (Lib.hid p3) (Lib.hid p4) w (Lib.hid SZ)
end Go.Proofs.YtdchcggllcgokaaDoor.K

namespace Go.Proofs.YtdchcggllcgokaaDoor.K
open Go.RowKit Go.Proofs.YtdchcggllcgokaaDoor.L Go.Proofs.YtdchcggllcgokaaDoor.U Go.Proofs.YtdchcggllcgokaaDoor.R Go.Proofs.YtdchcggllcgokaaDoor.E Go.Proofs.YtdchcggllcgokaaDoorW.PrintWords
set_option linter.unusedVariables false
set_option linter.unusedSimpArgs false
set_option maxRecDepth 100000 in
set_option maxHeartbeats 2000000 in
theorem Puts_walk (n i : Nat) (r : Int) (f a : Nat) (X : List Int) (HX : Hid (X.length = 64)) (e0 : Int) (z1 : Bool) (y : Int)
    (P1 : Hid (∀ w : World, Siz w → Calls Tryd.prog 7 #[.int .u64 (n : Int), magg i r f a] w fun e w' => e = .returned (.tuple #[blk X, .int .i64 e0]) ∧ Below w.heap.size w w'))
    (P2 : Hid (∀ w : World, Siz w → Calls Tryd.prog 8 #[.int .u64 (n : Int), magg i r f a] w fun e w' => e = .returned (.tuple #[blk X, .int .i64 e0]) ∧ Below w.heap.size w w'))
    (M1 : Hid (∀ w : World, Calls Tryd.prog 9 #[magg i r f a] w fun e w' => e = .returned (.bool z1) ∧ Below w.heap.size w w'))
    (M2 : Hid (∀ w : World, Calls Tryd.prog 10 #[magg i r f a] w fun e w' => e = .returned (.bool z1) ∧ Below w.heap.size w w'))
    (S1 : Hid (∀ w : World, Calls Tryd.prog 11 #[.int .u64 (n : Int)] w fun e w' => e = .returned (.int .i64 y) ∧ Below w.heap.size w w'))
    (S2 : Hid (∀ w : World, Calls Tryd.prog 12 #[.int .u64 (n : Int)] w fun e w' => e = .returned (.int .i64 y) ∧ Below w.heap.size w w')) (w : World) (SZ : Hid (Siz w)) :
    Calls Tryd.prog 3 #[.int .u64 (n : Int), magg i r f a] w fun e w' => e = .returned (.bool true) ∧ Below w.heap.size w w' := by
  have HB := Lib.hid (Below.refl w.heap.size w)
  have tok0 : True := trivial
  have tp0 : True := trivial
  go_enter Tryd.func3, Tryd.ntmps3
  go_wp2_with (first
    | (go_skip)
    | (refine F.rowBox 24 (.tmp 1) rfl rfl rfl ?_; intro w1 hk hb1 hz1; replace HB := Lib.hid (below_ext HB.out hb1); have K3 := Lib.hid hk; clear hk hb1)
    | (refine F.rowLoad 24 (.tmp 3) rfl K3.out rfl Tryd.underlying24 rfl info_mark rfl ?_)
    | (have _t := tp0; go_at_call 7; refine (P1.out _ (SZ.out.below HB.out)).mono ?_; rintro e w2 ⟨rfl, hb2⟩; replace K3 := Lib.hid (K3.out.below hb2); replace HB := Lib.hid (below_ext HB.out hb2); have hz2 := hb2.size; clear hb2; have tp1 : True := trivial; clear _t tp0)
    | (have _t := tok0; refine F.blkAlloc rfl rfl ?_; intro w3 hk hb3 hz3; replace K3 := Lib.hid (K3.out.below hb3); replace HB := Lib.hid (below_ext HB.out hb3); have K5 := Lib.hid hk; have tok1 : True := trivial; clear hk hb3 _t tok0)
    | (refine F.blkStore (.tmp 5) (.tmp 13) rfl K5.out rfl rfl HX.out rfl ?_; intro w4 hk hg; replace HB := Lib.hid (below_at HB.out hg (by omega) K5.out.lt); replace K3 := Lib.hid (K3.out.grown hg (by omega)); replace K5 := Lib.hid hk; have hz4 := hg.size; clear hk hg)
    | (have _t := tp1; go_at_call 8; refine (P2.out _ (SZ.out.below HB.out)).mono ?_; rintro e w5 ⟨rfl, hb5⟩; replace K3 := Lib.hid (K3.out.below hb5); replace K5 := Lib.hid (K5.out.below hb5); replace HB := Lib.hid (below_ext HB.out hb5); have hz5 := hb5.size; clear hb5; have tp2 : True := trivial; clear _t tp1)
    | (have _t := tok1; refine F.blkAlloc rfl rfl ?_; intro w6 hk hb6 hz6; replace K3 := Lib.hid (K3.out.below hb6); replace K5 := Lib.hid (K5.out.below hb6); replace HB := Lib.hid (below_ext HB.out hb6); have K7 := Lib.hid hk; have tok2 : True := trivial; clear hk hb6 _t tok1)
    | (refine F.blkStore (.tmp 7) (.tmp 19) rfl K7.out rfl rfl HX.out rfl ?_; intro w7 hk hg; replace HB := Lib.hid (below_at HB.out hg (by omega) K7.out.lt); replace K3 := Lib.hid (K3.out.grown hg (by omega)); replace K5 := Lib.hid (K5.out.grown hg (by omega)); replace K7 := Lib.hid hk; have hz7 := hg.size; clear hk hg))
  have zz : ∀ x : Later w7, Siz x.w := fun x => (SZ.out.below HB.out).later x
  have qK3 := K3.out.later
  have qK5 := K5.out.later
  have qK7 := K7.out.later
  have tq0 : True := trivial
  refine wp_region_cls (fun w9 => ∃ x : Later w7, w9 = x.w) (by kernel_rfl) (by kernel_rfl) (Later.drew _) ?_
  repeat (first
    | go_big_quiet_skip
    | (refine qRowLoad rfl 24 (.tmp 3) rfl qK3 rfl Tryd.underlying24 rfl info_mark ?_; simp only [Act.put, List.setIfInBounds_toArray, List.set_cons_zero, List.set_cons_succ])
    | (refine qBlkLoad rfl (.tmp 5) rfl HX.out qK5 rfl ?_; simp only [Act.put, List.setIfInBounds_toArray, List.set_cons_zero, List.set_cons_succ])
    | (refine qBlkLoad rfl (.tmp 7) rfl HX.out qK7 rfl ?_; simp only [Act.put, List.setIfInBounds_toArray, List.set_cons_zero, List.set_cons_succ])
    | (refine qBlkEql rfl (.tmp 27) (.tmp 28) _ rfl rfl rfl HX.out HX.out true (by simp) ?_; simp only [Act.put, List.setIfInBounds_toArray, List.set_cons_zero, List.set_cons_succ])
    | (have _t := tq0; refine qAt 9 rfl ?_; go_big_quiet_want; go_big_quiet_op; apply Exists.intro; refine ⟨fun x => ?_, ?_⟩; (· refine (M1.out _).mono ?_; rintro e x2 ⟨rfl, hb⟩; exact ⟨rfl, x.ext hb⟩); go_big_quiet_on; have tq1 : True := trivial; clear _t tq0)
    | (have _t := tq1; refine qAt 10 rfl ?_; go_big_quiet_want; go_big_quiet_op; apply Exists.intro; refine ⟨fun x => ?_, ?_⟩; (· refine (M2.out _).mono ?_; rintro e x2 ⟨rfl, hb⟩; exact ⟨rfl, x.ext hb⟩); go_big_quiet_on; have tq2 : True := trivial; clear _t tq1)
    | (have _t := tq2; refine qAt 11 rfl ?_; go_big_quiet_want; go_big_quiet_op; apply Exists.intro; refine ⟨fun x => ?_, ?_⟩; (· refine (S1.out _).mono ?_; rintro e x2 ⟨rfl, hb⟩; exact ⟨rfl, x.ext hb⟩); go_big_quiet_on; have tq3 : True := trivial; clear _t tq2)
    | (have _t := tq3; refine qAt 12 rfl ?_; go_big_quiet_want; go_big_quiet_op; apply Exists.intro; refine ⟨fun x => ?_, ?_⟩; (· refine (S2.out _).mono ?_; rintro e x2 ⟨rfl, hb⟩; exact ⟨rfl, x.ext hb⟩); go_big_quiet_on; have tq4 : True := trivial; clear _t tq3)
    | (have _t := tq4; refine qAt 13 rfl ?_; go_big_quiet_want; go_big_quiet_op; apply Exists.intro; refine ⟨fun x => ?_, ?_⟩; (· refine (lives_any _ (zz x)).mono ?_; rintro e x2 ⟨rfl, hb⟩; exact ⟨rfl, x.ext hb⟩); go_big_quiet_on; have tq5 : True := trivial; clear _t tq4)
    | (go_big_quiet_want; go_big_quiet_op; go_big_quiet_on))
  refine wpQuiet_nil ?_
  rintro w9 ⟨⟨x9, h9⟩, rfl⟩
  have hb9 := below_ext HB.out h9
  clear h9
  go_wp2
  go_ret
  exact ⟨rfl, hb9⟩
theorem puts_any (n i : Nat) (r : Int) (f a : Nat) (hn : n < 18446744073709551616) (hi : i < 18446744073709551616) (hr : -9223372036854775808 ≤ r ∧ r ≤ 9223372036854775807) (hf : f < 18446744073709551616) (ha : a < 18446744073709551616) (w : World) (SZ : Siz w) :
    Calls Tryd.prog 3 #[.int .u64 (n : Int), magg i r f a] w fun e w' => e = .returned (.bool true) ∧ Below w.heap.size w w' := by
  have p1 := fun w (SZ : Siz w) => Put_any n i r f a hn hi hr hf ha w SZ
  have p2 := fun w (SZ : Siz w) => rPut_any n i r f a hn hi hr hf ha w
  have hl := marks_length n i r f a
  generalize marks n i r f a = q at p1 p2 hl
  exact Puts_walk n i r f a q.1 (Lib.hid hl) q.2 _ _ (Lib.hid p1) (Lib.hid p2) (Lib.hid fun w => May_any i r f a hi hr hf ha w) (Lib.hid fun w => rMay_any i r f a hi hr hf ha w)
    (Lib.hid fun w => Slot_any n hn w) (Lib.hid fun w => rSlot_any n hn w) w (Lib.hid SZ)
end Go.Proofs.YtdchcggllcgokaaDoor.K

namespace Go.Proofs.YtdchcggllcgokaaDoor.K
open Go.RowKit Go.Proofs.YtdchcggllcgokaaDoor.L Go.Proofs.YtdchcggllcgokaaDoor.U Go.Proofs.YtdchcggllcgokaaDoor.R Go.Proofs.YtdchcggllcgokaaDoor.E Go.Proofs.YtdchcggllcgokaaDoorW.PrintWords
set_option linter.unusedVariables false
set_option linter.unusedSimpArgs false
set_option maxRecDepth 100000 in
set_option maxHeartbeats 2000000 in
theorem Gets_err (xs : List Int) (HX : Hid (xs.length = 64)) (n : Nat) (hn : n < 18446744073709551616) (B : Option Addr) (cap : Nat) (ys : List Int) (S : List Int) (HS : Hid (S.length = 64)) (n1 i1 r1 f1 a1 : Nat) (k1 : Int) (n2 i2 r2 f2 a2 : Nat) (k2 : Int) (k3 : Int) (h3 : (k3 != 0) = true) (P3 : Hid (rPutB n ys S k3))
    (P1 : Hid (∀ w : World, Siz w → Calls Tryd.prog 14 #[blk xs] w fun e w' => e = .returned (.tuple #[.int .u64 ((n1 : Int)), .agg #[.int .u64 ((i1 : Int)), .int .i64 ((r1 : Int)), .int .u64 ((f1 : Int)), .int .u64 ((a1 : Int))], .int .i64 k1]) ∧ Below w.heap.size w w'))
    (P2 : Hid (∀ w : World, Siz w → Calls Tryd.prog 15 #[blk xs] w fun e w' => e = .returned (.tuple #[.int .u64 ((n1 : Int)), .agg #[.int .u64 ((i1 : Int)), .int .i64 ((r1 : Int)), .int .u64 ((f1 : Int)), .int .u64 ((a1 : Int))], .int .i64 k1]) ∧ Below w.heap.size w w')) (w : World) (HR : Hid (ReadsInt w .u8 B ys.length ys)) (SZ : Hid (Siz w)) :
    Calls Tryd.prog 4 #[blk xs, .int .u64 (n : Int), .slice B ys.length cap] w fun e w' => e = .returned (.bool true) ∧ Below w.heap.size w w' := by
  have HB := Lib.hid (Below.refl w.heap.size w)
  have tok0 : True := trivial
  have tp0 : True := trivial
  go_enter Tryd.func4, Tryd.ntmps4
  go_wp2_with (first
    | (go_skip)
    | (refine F.blkBox (.tmp 0) rfl rfl HX.out rfl ?_; intro w1 hk hb1 hz1; replace HB := Lib.hid (below_ext HB.out hb1); have K3 := Lib.hid hk; clear hk hb1)
    | (refine F.blkLoad (.tmp 3) rfl K3.out rfl rfl ?_)
    | (have _t := tp0; go_at_call 14; refine (P1.out _ (SZ.out.below HB.out)).mono ?_; rintro e w2 ⟨rfl, hb2⟩; replace K3 := Lib.hid (K3.out.below hb2); replace HB := Lib.hid (below_ext HB.out hb2); have hz2 := hb2.size; clear hb2; have tp1 : True := trivial; clear _t tp0)
    | (have _t := tok0; refine F.rowAlloc 24 rfl _ zero_mark rfl ?_; intro w3 hk hb3 hz3; replace K3 := Lib.hid (K3.out.below hb3); replace HB := Lib.hid (below_ext HB.out hb3); have K8 := Lib.hid hk; have tok1 : True := trivial; clear hk hb3 _t tok0)
    | (refine F.rowStore (cs := #[.int .u64 ((i1 : Int)), .int .i64 ((r1 : Int)), .int .u64 ((f1 : Int)), .int .u64 ((a1 : Int))]) 24 (.tmp 8) (.tmp 19) rfl K8.out rfl rfl info_mark rfl (ones_mark _ _ _ _) rfl ?_; intro w4 hk hg; replace HB := Lib.hid (below_at HB.out hg (by omega) K8.out.lt); replace K3 := Lib.hid (K3.out.grown hg (by omega)); replace K8 := Lib.hid hk; have hz4 := hg.size; clear hk hg)
    | (have _t := tp1; go_at_call 15; refine (P2.out _ (SZ.out.below HB.out)).mono ?_; rintro e w5 ⟨rfl, hb5⟩; replace K3 := Lib.hid (K3.out.below hb5); replace K8 := Lib.hid (K8.out.below hb5); replace HB := Lib.hid (below_ext HB.out hb5); have hz5 := hb5.size; clear hb5; have tp2 : True := trivial; clear _t tp1)
    | (have _t := tok1; refine F.rowAlloc 24 rfl _ zero_mark rfl ?_; intro w6 hk hb6 hz6; replace K3 := Lib.hid (K3.out.below hb6); replace K8 := Lib.hid (K8.out.below hb6); replace HB := Lib.hid (below_ext HB.out hb6); have K11 := Lib.hid hk; have tok2 : True := trivial; clear hk hb6 _t tok1)
    | (refine F.rowStore (cs := #[.int .u64 ((i1 : Int)), .int .i64 ((r1 : Int)), .int .u64 ((f1 : Int)), .int .u64 ((a1 : Int))]) 24 (.tmp 11) (.tmp 25) rfl K11.out rfl rfl info_mark rfl (ones_mark _ _ _ _) rfl ?_; intro w7 hk hg; replace HB := Lib.hid (below_at HB.out hg (by omega) K11.out.lt); replace K3 := Lib.hid (K3.out.grown hg (by omega)); replace K8 := Lib.hid (K8.out.grown hg (by omega)); replace K11 := Lib.hid hk; have hz7 := hg.size; clear hk hg)
    | (refine F.rowLoad 24 (.tmp 8) rfl K8.out rfl Tryd.underlying24 rfl info_mark rfl ?_)
    | (refine F.rowLoad 24 (.tmp 11) rfl K11.out rfl Tryd.underlying24 rfl info_mark rfl ?_)
    | (refine valStep (run_markNeq (.tmp 31) (.tmp 32) _ rfl rfl rfl false (by simp) _) rfl ?_)
    | (have _t := tp2; go_at_call 16; refine (P3.out _ _ _ (HR.out.below HB.out)).mono ?_; rintro e w8 ⟨rfl, hb8⟩; replace K3 := Lib.hid (K3.out.below hb8); replace K8 := Lib.hid (K8.out.below hb8); replace K11 := Lib.hid (K11.out.below hb8); replace HB := Lib.hid (below_ext HB.out hb8); have hz8 := hb8.size; clear hb8; have tp3 : True := trivial; clear _t tp2)
    | (have _t := tok2; refine F.blkAlloc rfl rfl ?_; intro w9 hk hb9 hz9; replace K3 := Lib.hid (K3.out.below hb9); replace K8 := Lib.hid (K8.out.below hb9); replace K11 := Lib.hid (K11.out.below hb9); replace HB := Lib.hid (below_ext HB.out hb9); have K13 := Lib.hid hk; have tok3 : True := trivial; clear hk hb9 _t tok2)
    | (refine F.blkStore (.tmp 13) (.tmp 44) rfl K13.out rfl rfl HS.out rfl ?_; intro w10 hk hg; replace HB := Lib.hid (below_at HB.out hg (by omega) K13.out.lt); replace K3 := Lib.hid (K3.out.grown hg (by omega)); replace K8 := Lib.hid (K8.out.grown hg (by omega)); replace K11 := Lib.hid (K11.out.grown hg (by omega)); replace K13 := Lib.hid hk; have hz10 := hg.size; clear hk hg)
    | (have _t := tp3; go_at_call 13; refine (lives_any _ (SZ.out.below HB.out)).mono ?_; rintro e w11 ⟨rfl, hb11⟩; replace K3 := Lib.hid (K3.out.below hb11); replace K8 := Lib.hid (K8.out.below hb11); replace K11 := Lib.hid (K11.out.below hb11); replace K13 := Lib.hid (K13.out.below hb11); replace HB := Lib.hid (below_ext HB.out hb11); have hz11 := hb11.size; clear hb11; have tp4 : True := trivial; clear _t tp3))
  go_ret
  exact ⟨rfl, HB.out⟩
set_option maxRecDepth 100000 in
set_option maxHeartbeats 2000000 in
theorem Gets_ok (xs : List Int) (HX : Hid (xs.length = 64)) (n : Nat) (hn : n < 18446744073709551616) (B : Option Addr) (cap : Nat) (ys : List Int) (S : List Int) (HS : Hid (S.length = 64)) (n1 i1 r1 f1 a1 : Nat) (k1 : Int) (n2 i2 r2 f2 a2 : Nat) (k2 : Int) (k3 : Int) (h3 : k3 = 0) (P3 : Hid (rPutB n ys S k3))
    (P1 : Hid (∀ w : World, Siz w → Calls Tryd.prog 14 #[blk xs] w fun e w' => e = .returned (.tuple #[.int .u64 ((n1 : Int)), .agg #[.int .u64 ((i1 : Int)), .int .i64 ((r1 : Int)), .int .u64 ((f1 : Int)), .int .u64 ((a1 : Int))], .int .i64 k1]) ∧ Below w.heap.size w w'))
    (P2 : Hid (∀ w : World, Siz w → Calls Tryd.prog 15 #[blk xs] w fun e w' => e = .returned (.tuple #[.int .u64 ((n1 : Int)), .agg #[.int .u64 ((i1 : Int)), .int .i64 ((r1 : Int)), .int .u64 ((f1 : Int)), .int .u64 ((a1 : Int))], .int .i64 k1]) ∧ Below w.heap.size w w'))
    (P4 : Hid (∀ w : World, Siz w → Calls Tryd.prog 14 #[blk S] w fun e w' => e = .returned (.tuple #[.int .u64 ((n2 : Int)), .agg #[.int .u64 ((i2 : Int)), .int .i64 ((r2 : Int)), .int .u64 ((f2 : Int)), .int .u64 ((a2 : Int))], .int .i64 k2]) ∧ Below w.heap.size w w'))
    (P5 : Hid (∀ w : World, Siz w → Calls Tryd.prog 15 #[blk S] w fun e w' => e = .returned (.tuple #[.int .u64 ((n2 : Int)), .agg #[.int .u64 ((i2 : Int)), .int .i64 ((r2 : Int)), .int .u64 ((f2 : Int)), .int .u64 ((a2 : Int))], .int .i64 k2]) ∧ Below w.heap.size w w')) (w : World) (HR : Hid (ReadsInt w .u8 B ys.length ys)) (SZ : Hid (Siz w)) :
    Calls Tryd.prog 4 #[blk xs, .int .u64 (n : Int), .slice B ys.length cap] w fun e w' => e = .returned (.bool true) ∧ Below w.heap.size w w' := by
  have HB := Lib.hid (Below.refl w.heap.size w)
  subst h3
  have tok0 : True := trivial
  have tp0 : True := trivial
  go_enter Tryd.func4, Tryd.ntmps4
  go_wp2_with (first
    | (go_skip)
    | (refine F.blkBox (.tmp 0) rfl rfl HX.out rfl ?_; intro w1 hk hb1 hz1; replace HB := Lib.hid (below_ext HB.out hb1); have K3 := Lib.hid hk; clear hk hb1)
    | (refine F.blkLoad (.tmp 3) rfl K3.out rfl rfl ?_)
    | (have _t := tp0; go_at_call 14; refine (P1.out _ (SZ.out.below HB.out)).mono ?_; rintro e w2 ⟨rfl, hb2⟩; replace K3 := Lib.hid (K3.out.below hb2); replace HB := Lib.hid (below_ext HB.out hb2); have hz2 := hb2.size; clear hb2; have tp1 : True := trivial; clear _t tp0)
    | (have _t := tok0; refine F.rowAlloc 24 rfl _ zero_mark rfl ?_; intro w3 hk hb3 hz3; replace K3 := Lib.hid (K3.out.below hb3); replace HB := Lib.hid (below_ext HB.out hb3); have K8 := Lib.hid hk; have tok1 : True := trivial; clear hk hb3 _t tok0)
    | (refine F.rowStore (cs := #[.int .u64 ((i1 : Int)), .int .i64 ((r1 : Int)), .int .u64 ((f1 : Int)), .int .u64 ((a1 : Int))]) 24 (.tmp 8) (.tmp 19) rfl K8.out rfl rfl info_mark rfl (ones_mark _ _ _ _) rfl ?_; intro w4 hk hg; replace HB := Lib.hid (below_at HB.out hg (by omega) K8.out.lt); replace K3 := Lib.hid (K3.out.grown hg (by omega)); replace K8 := Lib.hid hk; have hz4 := hg.size; clear hk hg)
    | (have _t := tp1; go_at_call 15; refine (P2.out _ (SZ.out.below HB.out)).mono ?_; rintro e w5 ⟨rfl, hb5⟩; replace K3 := Lib.hid (K3.out.below hb5); replace K8 := Lib.hid (K8.out.below hb5); replace HB := Lib.hid (below_ext HB.out hb5); have hz5 := hb5.size; clear hb5; have tp2 : True := trivial; clear _t tp1)
    | (have _t := tok1; refine F.rowAlloc 24 rfl _ zero_mark rfl ?_; intro w6 hk hb6 hz6; replace K3 := Lib.hid (K3.out.below hb6); replace K8 := Lib.hid (K8.out.below hb6); replace HB := Lib.hid (below_ext HB.out hb6); have K11 := Lib.hid hk; have tok2 : True := trivial; clear hk hb6 _t tok1)
    | (refine F.rowStore (cs := #[.int .u64 ((i1 : Int)), .int .i64 ((r1 : Int)), .int .u64 ((f1 : Int)), .int .u64 ((a1 : Int))]) 24 (.tmp 11) (.tmp 25) rfl K11.out rfl rfl info_mark rfl (ones_mark _ _ _ _) rfl ?_; intro w7 hk hg; replace HB := Lib.hid (below_at HB.out hg (by omega) K11.out.lt); replace K3 := Lib.hid (K3.out.grown hg (by omega)); replace K8 := Lib.hid (K8.out.grown hg (by omega)); replace K11 := Lib.hid hk; have hz7 := hg.size; clear hk hg)
    | (refine F.rowLoad 24 (.tmp 8) rfl K8.out rfl Tryd.underlying24 rfl info_mark rfl ?_)
    | (refine F.rowLoad 24 (.tmp 11) rfl K11.out rfl Tryd.underlying24 rfl info_mark rfl ?_)
    | (refine valStep (run_markNeq (.tmp 31) (.tmp 32) _ rfl rfl rfl false (by simp) _) rfl ?_)
    | (have _t := tp2; go_at_call 16; refine (P3.out _ _ _ (HR.out.below HB.out)).mono ?_; rintro e w8 ⟨rfl, hb8⟩; replace K3 := Lib.hid (K3.out.below hb8); replace K8 := Lib.hid (K8.out.below hb8); replace K11 := Lib.hid (K11.out.below hb8); replace HB := Lib.hid (below_ext HB.out hb8); have hz8 := hb8.size; clear hb8; have tp3 : True := trivial; clear _t tp2)
    | (have _t := tok2; refine F.blkAlloc rfl rfl ?_; intro w9 hk hb9 hz9; replace K3 := Lib.hid (K3.out.below hb9); replace K8 := Lib.hid (K8.out.below hb9); replace K11 := Lib.hid (K11.out.below hb9); replace HB := Lib.hid (below_ext HB.out hb9); have K13 := Lib.hid hk; have tok3 : True := trivial; clear hk hb9 _t tok2)
    | (refine F.blkStore (.tmp 13) (.tmp 44) rfl K13.out rfl rfl HS.out rfl ?_; intro w10 hk hg; replace HB := Lib.hid (below_at HB.out hg (by omega) K13.out.lt); replace K3 := Lib.hid (K3.out.grown hg (by omega)); replace K8 := Lib.hid (K8.out.grown hg (by omega)); replace K11 := Lib.hid (K11.out.grown hg (by omega)); replace K13 := Lib.hid hk; have hz10 := hg.size; clear hk hg)
    | (refine F.blkLoad (.tmp 13) rfl K13.out rfl rfl ?_)
    | (have _t := tp3; go_at_call 14; refine (P4.out _ (SZ.out.below HB.out)).mono ?_; rintro e w11 ⟨rfl, hb11⟩; replace K3 := Lib.hid (K3.out.below hb11); replace K8 := Lib.hid (K8.out.below hb11); replace K11 := Lib.hid (K11.out.below hb11); replace K13 := Lib.hid (K13.out.below hb11); replace HB := Lib.hid (below_ext HB.out hb11); have hz11 := hb11.size; clear hb11; have tp4 : True := trivial; clear _t tp3)
    | (refine F.rowStore (cs := #[.int .u64 ((i2 : Int)), .int .i64 ((r2 : Int)), .int .u64 ((f2 : Int)), .int .u64 ((a2 : Int))]) 24 (.tmp 8) (.tmp 53) rfl K8.out rfl rfl info_mark rfl (ones_mark _ _ _ _) rfl ?_; intro w12 hk hg; replace HB := Lib.hid (below_at HB.out hg (by omega) K8.out.lt); replace K3 := Lib.hid (K3.out.grown hg (by omega)); replace K11 := Lib.hid (K11.out.grown hg (by omega)); replace K13 := Lib.hid (K13.out.grown hg (by omega)); replace K8 := Lib.hid hk; have hz12 := hg.size; clear hk hg)
    | (have _t := tp4; go_at_call 15; refine (P5.out _ (SZ.out.below HB.out)).mono ?_; rintro e w13 ⟨rfl, hb13⟩; replace K3 := Lib.hid (K3.out.below hb13); replace K8 := Lib.hid (K8.out.below hb13); replace K11 := Lib.hid (K11.out.below hb13); replace K13 := Lib.hid (K13.out.below hb13); replace HB := Lib.hid (below_ext HB.out hb13); have hz13 := hb13.size; clear hb13; have tp5 : True := trivial; clear _t tp4)
    | (refine F.rowStore (cs := #[.int .u64 ((i2 : Int)), .int .i64 ((r2 : Int)), .int .u64 ((f2 : Int)), .int .u64 ((a2 : Int))]) 24 (.tmp 11) (.tmp 59) rfl K11.out rfl rfl info_mark rfl (ones_mark _ _ _ _) rfl ?_; intro w14 hk hg; replace HB := Lib.hid (below_at HB.out hg (by omega) K11.out.lt); replace K3 := Lib.hid (K3.out.grown hg (by omega)); replace K8 := Lib.hid (K8.out.grown hg (by omega)); replace K13 := Lib.hid (K13.out.grown hg (by omega)); replace K11 := Lib.hid hk; have hz14 := hg.size; clear hk hg)
    | (refine valStep (run_markEql (.tmp 65) (.tmp 66) _ rfl rfl rfl true (by simp) _) rfl ?_)
    | (have _t := tp5; go_at_call 13; refine (lives_any _ (SZ.out.below HB.out)).mono ?_; rintro e w15 ⟨rfl, hb15⟩; replace K3 := Lib.hid (K3.out.below hb15); replace K8 := Lib.hid (K8.out.below hb15); replace K11 := Lib.hid (K11.out.below hb15); replace K13 := Lib.hid (K13.out.below hb15); replace HB := Lib.hid (below_ext HB.out hb15); have hz15 := hb15.size; clear hb15; have tp6 : True := trivial; clear _t tp5))
  go_ret
  exact ⟨rfl, HB.out⟩
abbrev GE (f : Nat) (xs : List Int) (n i r g a : Nat) (k : Int) : Prop := ∀ w : World, Siz w → Calls Tryd.prog f #[blk xs] w fun e w' => e = .returned (.tuple #[.int .u64 (n : Int), magg i (r : Int) g a, .int .i64 k]) ∧ Below w.heap.size w w'
theorem get_e {xs : List Int} (hl : xs.length = 64) (hw : Wf8 xs) {n i r g a : Nat} {k : Int} (h : gotM xs = ((n, i, r, g, a), k)) : GE 14 xs n i r g a k := fun w SZ => by
  have h2 := Get_mark xs hl hw w SZ
  rw [h] at h2
  exact h2
theorem rget_e {xs : List Int} (hl : xs.length = 64) (hw : Wf8 xs) {n i r g a : Nat} {k : Int} (h : gotM xs = ((n, i, r, g, a), k)) : GE 15 xs n i r g a k := fun w SZ => by
  have h2 := rGet_mark xs hl hw w
  rw [h] at h2
  exact h2
theorem gets_any (xs : List Int) (hl : xs.length = 64) (hw : Wf8 xs) (n : Nat) (hn : n < 18446744073709551616) (B : Option Addr) (cap : Nat) (ys : List Int) (hy : Wf8 ys) (w : World) (hr : ReadsInt w .u8 B ys.length ys) (SZ : Siz w) :
    Calls Tryd.prog 4 #[blk xs, .int .u64 (n : Int), .slice B ys.length cap] w fun e w' => e = .returned (.bool true) ∧ Below w.heap.size w w' := by
  obtain ⟨⟨S, k⟩, hS⟩ : ∃ q, q = seals n ys := ⟨_, rfl⟩
  have hSl : S.length = 64 := by have h := seals_length n ys; rwa [← hS] at h
  have hSw : Wf8 S := by have h := seals_wf n hy; rwa [← hS] at h
  obtain ⟨⟨⟨n1, i1, r1, f1, a1⟩, k1⟩, h1⟩ : ∃ r, gotM xs = r := ⟨_, rfl⟩
  obtain ⟨⟨⟨n2, i2, r2, f2, a2⟩, k2⟩, h2⟩ : ∃ r, gotM S = r := ⟨_, rfl⟩
  have P1 := get_e hl hw h1
  have P2 := rget_e hl hw h1
  have P3 := rput_b hn hy hS.symm
  have P4 := get_e hSl hSw h2
  have P5 := rget_e hSl hSw h2
  clear hS h1 h2
  by_cases h0 : k = 0
  · exact Gets_ok xs (Lib.hid hl) n hn B cap ys S (Lib.hid hSl) n1 i1 r1 f1 a1 k1 n2 i2 r2 f2 a2 k2 k h0 (Lib.hid P3) (Lib.hid P1) (Lib.hid P2) (Lib.hid P4) (Lib.hid P5) w (Lib.hid hr) (Lib.hid SZ)
  · exact Gets_err xs (Lib.hid hl) n hn B cap ys S (Lib.hid hSl) n1 i1 r1 f1 a1 k1 n2 i2 r2 f2 a2 k2 k (bne_iff_ne.2 h0) (Lib.hid P3) (Lib.hid P1) (Lib.hid P2) w (Lib.hid hr) (Lib.hid SZ)
end Go.Proofs.YtdchcggllcgokaaDoor.K

namespace Go.Proofs.YtdchcggllcgokaaDoor.K
open Go.RowKit Go.Proofs.YtdchcggllcgokaaDoor.L Go.Proofs.YtdchcggllcgokaaDoor.U Go.Proofs.YtdchcggllcgokaaDoor.R Go.Proofs.YtdchcggllcgokaaDoor.E Go.Proofs.YtdchcggllcgokaaDoorW.PrintWords
set_option linter.unusedVariables false
set_option linter.unusedSimpArgs false
set_option maxRecDepth 100000 in
set_option maxHeartbeats 2000000 in
theorem Back_A1 (n i : Nat) (r : Int) (f a : Nat) (X : List Int) (HL : Hid (X.length = 64)) (xs : List Int) (HX : Hid (xs.length = 64)) (n1 i1 r1 f1 a1 : Nat) (k : Int) (kne : (k != 0) = true) (kne2 : (k == 0) = false)  
    (P1 : Hid (∀ w : World, Siz w → Calls Tryd.prog 7 #[.int .u64 (n : Int), magg i r f a] w fun e w' => e = .returned (.tuple #[blk X, .int .i64 0]) ∧ Below w.heap.size w w'))
    (P2 : Hid (∀ w : World, Siz w → Calls Tryd.prog 14 #[blk X] w fun e w' => e = .returned (.tuple #[.int .u64 ((n : Int)), .agg #[.int .u64 ((i : Int)), .int .i64 (r), .int .u64 ((f : Int)), .int .u64 ((a : Int))], .int .i64 0]) ∧ Below w.heap.size w w'))
    (P3 : Hid (∀ w : World, Siz w → Calls Tryd.prog 14 #[blk xs] w fun e w' => e = .returned (.tuple #[.int .u64 ((n1 : Int)), .agg #[.int .u64 ((i1 : Int)), .int .i64 ((r1 : Int)), .int .u64 ((f1 : Int)), .int .u64 ((a1 : Int))], .int .i64 0]) ∧ Below w.heap.size w w'))
    (P4 : Hid (∀ w : World, Siz w → Calls Tryd.prog 7 #[.int .u64 (n1 : Int), .agg #[.int .u64 ((i1 : Int)), .int .i64 ((r1 : Int)), .int .u64 ((f1 : Int)), .int .u64 ((a1 : Int))]] w fun e w' => e = .returned (.tuple #[blk xs, .int .i64 0]) ∧ Below w.heap.size w w')) (w : World) (SZ : Hid (Siz w)) :
    Calls Tryd.prog 5 #[.int .u64 (n : Int), magg i r f a, blk xs] w fun e w' => e = .returned (.bool true) ∧ Below w.heap.size w w' := by
  have HB := Lib.hid (Below.refl w.heap.size w)
  have tok0 : True := trivial
  have tp0 : True := trivial
  go_enter Tryd.func5, Tryd.ntmps5
  go_wp2_with (first
    | (go_skip)
    | (refine F.rowBox 24 (.tmp 1) rfl rfl rfl ?_; intro w1 hk hb1 hz1; replace HB := Lib.hid (below_ext HB.out hb1); have K4 := Lib.hid hk; clear hk hb1)
    | (refine F.blkBox (.tmp 2) rfl rfl HX.out rfl ?_; intro w2 hk hb2 hz2; replace K4 := Lib.hid (K4.out.below hb2); replace HB := Lib.hid (below_ext HB.out hb2); have K5 := Lib.hid hk; clear hk hb2)
    | (refine F.rowLoad 24 (.tmp 4) rfl K4.out rfl Tryd.underlying24 rfl info_mark rfl ?_)
    | (have _t := tp0; go_at_call 7; refine (P1.out _ (SZ.out.below HB.out)).mono ?_; rintro e w3 ⟨rfl, hb3⟩; replace K4 := Lib.hid (K4.out.below hb3); replace K5 := Lib.hid (K5.out.below hb3); replace HB := Lib.hid (below_ext HB.out hb3); have hz3 := hb3.size; clear hb3; have tp1 : True := trivial; clear _t tp0)
    | (have _t := tok0; refine F.blkAlloc rfl rfl ?_; intro w4 hk hb4 hz4; replace K4 := Lib.hid (K4.out.below hb4); replace K5 := Lib.hid (K5.out.below hb4); replace HB := Lib.hid (below_ext HB.out hb4); have K7 := Lib.hid hk; have tok1 : True := trivial; clear hk hb4 _t tok0)
    | (refine F.blkStore (.tmp 7) (.tmp 21) rfl K7.out rfl rfl HL.out rfl ?_; intro w5 hk hg; replace HB := Lib.hid (below_at HB.out hg (by omega) K7.out.lt); replace K4 := Lib.hid (K4.out.grown hg (by omega)); replace K5 := Lib.hid (K5.out.grown hg (by omega)); replace K7 := Lib.hid hk; have hz5 := hg.size; clear hk hg)
    | (refine F.blkLoad (.tmp 7) rfl K7.out rfl rfl ?_)
    | (have _t := tp1; go_at_call 14; refine (P2.out _ (SZ.out.below HB.out)).mono ?_; rintro e w6 ⟨rfl, hb6⟩; replace K4 := Lib.hid (K4.out.below hb6); replace K5 := Lib.hid (K5.out.below hb6); replace K7 := Lib.hid (K7.out.below hb6); replace HB := Lib.hid (below_ext HB.out hb6); have hz6 := hb6.size; clear hb6; have tp2 : True := trivial; clear _t tp1)
    | (have _t := tok1; refine F.rowAlloc 24 rfl _ zero_mark rfl ?_; intro w7 hk hb7 hz7; replace K4 := Lib.hid (K4.out.below hb7); replace K5 := Lib.hid (K5.out.below hb7); replace K7 := Lib.hid (K7.out.below hb7); replace HB := Lib.hid (below_ext HB.out hb7); have K10 := Lib.hid hk; have tok2 : True := trivial; clear hk hb7 _t tok1)
    | (refine F.rowStore (cs := #[.int .u64 ((i : Int)), .int .i64 (r), .int .u64 ((f : Int)), .int .u64 ((a : Int))]) 24 (.tmp 10) (.tmp 29) rfl K10.out rfl rfl info_mark rfl (ones_mark _ _ _ _) rfl ?_; intro w8 hk hg; replace HB := Lib.hid (below_at HB.out hg (by omega) K10.out.lt); replace K4 := Lib.hid (K4.out.grown hg (by omega)); replace K5 := Lib.hid (K5.out.grown hg (by omega)); replace K7 := Lib.hid (K7.out.grown hg (by omega)); replace K10 := Lib.hid hk; have hz8 := hg.size; clear hk hg)
    | (refine F.rowLoad 24 (.tmp 10) rfl K10.out rfl Tryd.underlying24 rfl info_mark rfl ?_)
    | (refine valStep (run_markNeq (.tmp 35) (.tmp 36) _ rfl rfl rfl false (by simp) _) rfl ?_)
    | (refine F.blkLoad (.tmp 5) rfl K5.out rfl rfl ?_)
    | (have _t := tp2; go_at_call 14; refine (P3.out _ (SZ.out.below HB.out)).mono ?_; rintro e w9 ⟨rfl, hb9⟩; replace K4 := Lib.hid (K4.out.below hb9); replace K5 := Lib.hid (K5.out.below hb9); replace K7 := Lib.hid (K7.out.below hb9); replace K10 := Lib.hid (K10.out.below hb9); replace HB := Lib.hid (below_ext HB.out hb9); have hz9 := hb9.size; clear hb9; have tp3 : True := trivial; clear _t tp2)
    | (have _t := tok2; refine F.rowAlloc 24 rfl _ zero_mark rfl ?_; intro w10 hk hb10 hz10; replace K4 := Lib.hid (K4.out.below hb10); replace K5 := Lib.hid (K5.out.below hb10); replace K7 := Lib.hid (K7.out.below hb10); replace K10 := Lib.hid (K10.out.below hb10); replace HB := Lib.hid (below_ext HB.out hb10); have K13 := Lib.hid hk; have tok3 : True := trivial; clear hk hb10 _t tok2)
    | (refine F.rowStore (cs := #[.int .u64 ((i1 : Int)), .int .i64 ((r1 : Int)), .int .u64 ((f1 : Int)), .int .u64 ((a1 : Int))]) 24 (.tmp 13) (.tmp 57) rfl K13.out rfl rfl info_mark rfl (ones_mark _ _ _ _) rfl ?_; intro w11 hk hg; replace HB := Lib.hid (below_at HB.out hg (by omega) K13.out.lt); replace K4 := Lib.hid (K4.out.grown hg (by omega)); replace K5 := Lib.hid (K5.out.grown hg (by omega)); replace K7 := Lib.hid (K7.out.grown hg (by omega)); replace K10 := Lib.hid (K10.out.grown hg (by omega)); replace K13 := Lib.hid hk; have hz11 := hg.size; clear hk hg)
    | (refine F.rowLoad 24 (.tmp 13) rfl K13.out rfl Tryd.underlying24 rfl info_mark rfl ?_)
    | (have _t := tp3; go_at_call 7; refine (P4.out _ (SZ.out.below HB.out)).mono ?_; rintro e w12 ⟨rfl, hb12⟩; replace K4 := Lib.hid (K4.out.below hb12); replace K5 := Lib.hid (K5.out.below hb12); replace K7 := Lib.hid (K7.out.below hb12); replace K10 := Lib.hid (K10.out.below hb12); replace K13 := Lib.hid (K13.out.below hb12); replace HB := Lib.hid (below_ext HB.out hb12); have hz12 := hb12.size; clear hb12; have tp4 : True := trivial; clear _t tp3)
    | (have _t := tok3; refine F.blkAlloc rfl rfl ?_; intro w13 hk hb13 hz13; replace K4 := Lib.hid (K4.out.below hb13); replace K5 := Lib.hid (K5.out.below hb13); replace K7 := Lib.hid (K7.out.below hb13); replace K10 := Lib.hid (K10.out.below hb13); replace K13 := Lib.hid (K13.out.below hb13); replace HB := Lib.hid (below_ext HB.out hb13); have K15 := Lib.hid hk; have tok4 : True := trivial; clear hk hb13 _t tok3)
    | (refine F.blkStore (.tmp 15) (.tmp 65) rfl K15.out rfl rfl HX.out rfl ?_; intro w14 hk hg; replace HB := Lib.hid (below_at HB.out hg (by omega) K15.out.lt); replace K4 := Lib.hid (K4.out.grown hg (by omega)); replace K5 := Lib.hid (K5.out.grown hg (by omega)); replace K7 := Lib.hid (K7.out.grown hg (by omega)); replace K10 := Lib.hid (K10.out.grown hg (by omega)); replace K13 := Lib.hid (K13.out.grown hg (by omega)); replace K15 := Lib.hid hk; have hz14 := hg.size; clear hk hg)
    | (refine F.blkLoad (.tmp 15) rfl K15.out rfl rfl ?_)
    | (refine F.blkEql (.tmp 70) (.tmp 71) _ rfl rfl rfl HX.out HX.out true (by simp) rfl ?_)
    | (have _t := tp4; go_at_call 13; refine (lives_any _ (SZ.out.below HB.out)).mono ?_; rintro e w15 ⟨rfl, hb15⟩; replace K4 := Lib.hid (K4.out.below hb15); replace K5 := Lib.hid (K5.out.below hb15); replace K7 := Lib.hid (K7.out.below hb15); replace K10 := Lib.hid (K10.out.below hb15); replace K13 := Lib.hid (K13.out.below hb15); replace K15 := Lib.hid (K15.out.below hb15); replace HB := Lib.hid (below_ext HB.out hb15); have hz15 := hb15.size; clear hb15; have tp5 : True := trivial; clear _t tp4))
  go_ret
  exact ⟨rfl, HB.out⟩
set_option maxRecDepth 100000 in
set_option maxHeartbeats 2000000 in
theorem Back_A2 (n i : Nat) (r : Int) (f a : Nat) (X : List Int) (HL : Hid (X.length = 64)) (xs : List Int) (HX : Hid (xs.length = 64)) (n1 i1 r1 f1 a1 : Nat) (k : Int) (kne : (k != 0) = true) (kne2 : (k == 0) = false)  
    (P1 : Hid (∀ w : World, Siz w → Calls Tryd.prog 7 #[.int .u64 (n : Int), magg i r f a] w fun e w' => e = .returned (.tuple #[blk X, .int .i64 0]) ∧ Below w.heap.size w w'))
    (P2 : Hid (∀ w : World, Siz w → Calls Tryd.prog 14 #[blk X] w fun e w' => e = .returned (.tuple #[.int .u64 ((n : Int)), .agg #[.int .u64 ((i : Int)), .int .i64 (r), .int .u64 ((f : Int)), .int .u64 ((a : Int))], .int .i64 0]) ∧ Below w.heap.size w w'))
    (P3 : Hid (∀ w : World, Siz w → Calls Tryd.prog 14 #[blk xs] w fun e w' => e = .returned (.tuple #[.int .u64 (0), .agg #[.int .u64 (0), .int .i64 (0), .int .u64 (0), .int .u64 (0)], .int .i64 k]) ∧ Below w.heap.size w w')) (w : World) (SZ : Hid (Siz w)) :
    Calls Tryd.prog 5 #[.int .u64 (n : Int), magg i r f a, blk xs] w fun e w' => e = .returned (.bool true) ∧ Below w.heap.size w w' := by
  have HB := Lib.hid (Below.refl w.heap.size w)
  have tok0 : True := trivial
  have tp0 : True := trivial
  go_enter Tryd.func5, Tryd.ntmps5
  go_wp2_with (first
    | (go_skip)
    | (refine F.rowBox 24 (.tmp 1) rfl rfl rfl ?_; intro w1 hk hb1 hz1; replace HB := Lib.hid (below_ext HB.out hb1); have K4 := Lib.hid hk; clear hk hb1)
    | (refine F.blkBox (.tmp 2) rfl rfl HX.out rfl ?_; intro w2 hk hb2 hz2; replace K4 := Lib.hid (K4.out.below hb2); replace HB := Lib.hid (below_ext HB.out hb2); have K5 := Lib.hid hk; clear hk hb2)
    | (refine F.rowLoad 24 (.tmp 4) rfl K4.out rfl Tryd.underlying24 rfl info_mark rfl ?_)
    | (have _t := tp0; go_at_call 7; refine (P1.out _ (SZ.out.below HB.out)).mono ?_; rintro e w3 ⟨rfl, hb3⟩; replace K4 := Lib.hid (K4.out.below hb3); replace K5 := Lib.hid (K5.out.below hb3); replace HB := Lib.hid (below_ext HB.out hb3); have hz3 := hb3.size; clear hb3; have tp1 : True := trivial; clear _t tp0)
    | (have _t := tok0; refine F.blkAlloc rfl rfl ?_; intro w4 hk hb4 hz4; replace K4 := Lib.hid (K4.out.below hb4); replace K5 := Lib.hid (K5.out.below hb4); replace HB := Lib.hid (below_ext HB.out hb4); have K7 := Lib.hid hk; have tok1 : True := trivial; clear hk hb4 _t tok0)
    | (refine F.blkStore (.tmp 7) (.tmp 21) rfl K7.out rfl rfl HL.out rfl ?_; intro w5 hk hg; replace HB := Lib.hid (below_at HB.out hg (by omega) K7.out.lt); replace K4 := Lib.hid (K4.out.grown hg (by omega)); replace K5 := Lib.hid (K5.out.grown hg (by omega)); replace K7 := Lib.hid hk; have hz5 := hg.size; clear hk hg)
    | (refine F.blkLoad (.tmp 7) rfl K7.out rfl rfl ?_)
    | (have _t := tp1; go_at_call 14; refine (P2.out _ (SZ.out.below HB.out)).mono ?_; rintro e w6 ⟨rfl, hb6⟩; replace K4 := Lib.hid (K4.out.below hb6); replace K5 := Lib.hid (K5.out.below hb6); replace K7 := Lib.hid (K7.out.below hb6); replace HB := Lib.hid (below_ext HB.out hb6); have hz6 := hb6.size; clear hb6; have tp2 : True := trivial; clear _t tp1)
    | (have _t := tok1; refine F.rowAlloc 24 rfl _ zero_mark rfl ?_; intro w7 hk hb7 hz7; replace K4 := Lib.hid (K4.out.below hb7); replace K5 := Lib.hid (K5.out.below hb7); replace K7 := Lib.hid (K7.out.below hb7); replace HB := Lib.hid (below_ext HB.out hb7); have K10 := Lib.hid hk; have tok2 : True := trivial; clear hk hb7 _t tok1)
    | (refine F.rowStore (cs := #[.int .u64 ((i : Int)), .int .i64 (r), .int .u64 ((f : Int)), .int .u64 ((a : Int))]) 24 (.tmp 10) (.tmp 29) rfl K10.out rfl rfl info_mark rfl (ones_mark _ _ _ _) rfl ?_; intro w8 hk hg; replace HB := Lib.hid (below_at HB.out hg (by omega) K10.out.lt); replace K4 := Lib.hid (K4.out.grown hg (by omega)); replace K5 := Lib.hid (K5.out.grown hg (by omega)); replace K7 := Lib.hid (K7.out.grown hg (by omega)); replace K10 := Lib.hid hk; have hz8 := hg.size; clear hk hg)
    | (refine F.rowLoad 24 (.tmp 10) rfl K10.out rfl Tryd.underlying24 rfl info_mark rfl ?_)
    | (refine valStep (run_markNeq (.tmp 35) (.tmp 36) _ rfl rfl rfl false (by simp) _) rfl ?_)
    | (refine F.blkLoad (.tmp 5) rfl K5.out rfl rfl ?_)
    | (have _t := tp2; go_at_call 14; refine (P3.out _ (SZ.out.below HB.out)).mono ?_; rintro e w9 ⟨rfl, hb9⟩; replace K4 := Lib.hid (K4.out.below hb9); replace K5 := Lib.hid (K5.out.below hb9); replace K7 := Lib.hid (K7.out.below hb9); replace K10 := Lib.hid (K10.out.below hb9); replace HB := Lib.hid (below_ext HB.out hb9); have hz9 := hb9.size; clear hb9; have tp3 : True := trivial; clear _t tp2)
    | (have _t := tok2; refine F.rowAlloc 24 rfl _ zero_mark rfl ?_; intro w10 hk hb10 hz10; replace K4 := Lib.hid (K4.out.below hb10); replace K5 := Lib.hid (K5.out.below hb10); replace K7 := Lib.hid (K7.out.below hb10); replace K10 := Lib.hid (K10.out.below hb10); replace HB := Lib.hid (below_ext HB.out hb10); have K13 := Lib.hid hk; have tok3 : True := trivial; clear hk hb10 _t tok2)
    | (refine F.rowStore (cs := #[.int .u64 (0), .int .i64 (0), .int .u64 (0), .int .u64 (0)]) 24 (.tmp 13) (.tmp 57) rfl K13.out rfl rfl info_mark rfl (ones_mark _ _ _ _) rfl ?_; intro w11 hk hg; replace HB := Lib.hid (below_at HB.out hg (by omega) K13.out.lt); replace K4 := Lib.hid (K4.out.grown hg (by omega)); replace K5 := Lib.hid (K5.out.grown hg (by omega)); replace K7 := Lib.hid (K7.out.grown hg (by omega)); replace K10 := Lib.hid (K10.out.grown hg (by omega)); replace K13 := Lib.hid hk; have hz11 := hg.size; clear hk hg)
    | (refine F.rowLoad 24 (.tmp 13) rfl K13.out rfl Tryd.underlying24 rfl info_mark rfl ?_)
    | (refine valStep (run_markEql (.tmp 80) (.tmp 81) _ rfl rfl rfl true (by decide) _) rfl ?_)
    | (have _t := tp3; go_at_call 13; refine (lives_any _ (SZ.out.below HB.out)).mono ?_; rintro e w12 ⟨rfl, hb12⟩; replace K4 := Lib.hid (K4.out.below hb12); replace K5 := Lib.hid (K5.out.below hb12); replace K7 := Lib.hid (K7.out.below hb12); replace K10 := Lib.hid (K10.out.below hb12); replace K13 := Lib.hid (K13.out.below hb12); replace HB := Lib.hid (below_ext HB.out hb12); have hz12 := hb12.size; clear hb12; have tp4 : True := trivial; clear _t tp3))
  go_ret
  exact ⟨rfl, HB.out⟩
set_option maxRecDepth 100000 in
set_option maxHeartbeats 2000000 in
theorem Back_B01 (n i : Nat) (r : Int) (f a : Nat) (X : List Int) (HL : Hid (X.length = 64)) (xs : List Int) (HX : Hid (xs.length = 64)) (n1 i1 r1 f1 a1 : Nat) (k : Int) (kne : (k != 0) = true) (kne2 : (k == 0) = false) (z : Bool) (hz : z = false)
    (P1 : Hid (∀ w : World, Siz w → Calls Tryd.prog 7 #[.int .u64 (n : Int), magg i r f a] w fun e w' => e = .returned (.tuple #[blk zeros, .int .i64 2]) ∧ Below w.heap.size w w'))
    (P2 : Hid (∀ w : World, Calls Tryd.prog 9 #[magg i r f a] w fun e w' => e = .returned (.bool z) ∧ Below w.heap.size w w'))
    (P3 : Hid (∀ w : World, Siz w → Calls Tryd.prog 14 #[blk xs] w fun e w' => e = .returned (.tuple #[.int .u64 ((n1 : Int)), .agg #[.int .u64 ((i1 : Int)), .int .i64 ((r1 : Int)), .int .u64 ((f1 : Int)), .int .u64 ((a1 : Int))], .int .i64 0]) ∧ Below w.heap.size w w'))
    (P4 : Hid (∀ w : World, Siz w → Calls Tryd.prog 7 #[.int .u64 (n1 : Int), .agg #[.int .u64 ((i1 : Int)), .int .i64 ((r1 : Int)), .int .u64 ((f1 : Int)), .int .u64 ((a1 : Int))]] w fun e w' => e = .returned (.tuple #[blk xs, .int .i64 0]) ∧ Below w.heap.size w w')) (w : World) (SZ : Hid (Siz w)) :
    Calls Tryd.prog 5 #[.int .u64 (n : Int), magg i r f a, blk xs] w fun e w' => e = .returned (.bool true) ∧ Below w.heap.size w w' := by
  have HB := Lib.hid (Below.refl w.heap.size w)
  subst hz
  have tok0 : True := trivial
  have tp0 : True := trivial
  go_enter Tryd.func5, Tryd.ntmps5
  go_wp2_with (first
    | (go_skip)
    | (refine F.rowBox 24 (.tmp 1) rfl rfl rfl ?_; intro w1 hk hb1 hz1; replace HB := Lib.hid (below_ext HB.out hb1); have K4 := Lib.hid hk; clear hk hb1)
    | (refine F.blkBox (.tmp 2) rfl rfl HX.out rfl ?_; intro w2 hk hb2 hz2; replace K4 := Lib.hid (K4.out.below hb2); replace HB := Lib.hid (below_ext HB.out hb2); have K5 := Lib.hid hk; clear hk hb2)
    | (refine F.rowLoad 24 (.tmp 4) rfl K4.out rfl Tryd.underlying24 rfl info_mark rfl ?_)
    | (have _t := tp0; go_at_call 7; refine (P1.out _ (SZ.out.below HB.out)).mono ?_; rintro e w3 ⟨rfl, hb3⟩; replace K4 := Lib.hid (K4.out.below hb3); replace K5 := Lib.hid (K5.out.below hb3); replace HB := Lib.hid (below_ext HB.out hb3); have hz3 := hb3.size; clear hb3; have tp1 : True := trivial; clear _t tp0)
    | (have _t := tok0; refine F.blkAlloc rfl rfl ?_; intro w4 hk hb4 hz4; replace K4 := Lib.hid (K4.out.below hb4); replace K5 := Lib.hid (K5.out.below hb4); replace HB := Lib.hid (below_ext HB.out hb4); have K7 := Lib.hid hk; have tok1 : True := trivial; clear hk hb4 _t tok0)
    | (refine F.blkStore (.tmp 7) (.tmp 21) rfl K7.out rfl rfl zeros_length rfl ?_; intro w5 hk hg; replace HB := Lib.hid (below_at HB.out hg (by omega) K7.out.lt); replace K4 := Lib.hid (K4.out.grown hg (by omega)); replace K5 := Lib.hid (K5.out.grown hg (by omega)); replace K7 := Lib.hid hk; have hz5 := hg.size; clear hk hg)
    | (have _t := tp1; go_at_call 9; refine (P2.out _).mono ?_; rintro e w6 ⟨rfl, hb6⟩; replace K4 := Lib.hid (K4.out.below hb6); replace K5 := Lib.hid (K5.out.below hb6); replace K7 := Lib.hid (K7.out.below hb6); replace HB := Lib.hid (below_ext HB.out hb6); have hz6 := hb6.size; clear hb6; have tp2 : True := trivial; clear _t tp1)
    | (refine F.blkLoad (.tmp 5) rfl K5.out rfl rfl ?_)
    | (have _t := tp2; go_at_call 14; refine (P3.out _ (SZ.out.below HB.out)).mono ?_; rintro e w7 ⟨rfl, hb7⟩; replace K4 := Lib.hid (K4.out.below hb7); replace K5 := Lib.hid (K5.out.below hb7); replace K7 := Lib.hid (K7.out.below hb7); replace HB := Lib.hid (below_ext HB.out hb7); have hz7 := hb7.size; clear hb7; have tp3 : True := trivial; clear _t tp2)
    | (have _t := tok1; refine F.rowAlloc 24 rfl _ zero_mark rfl ?_; intro w8 hk hb8 hz8; replace K4 := Lib.hid (K4.out.below hb8); replace K5 := Lib.hid (K5.out.below hb8); replace K7 := Lib.hid (K7.out.below hb8); replace HB := Lib.hid (below_ext HB.out hb8); have K13 := Lib.hid hk; have tok2 : True := trivial; clear hk hb8 _t tok1)
    | (refine F.rowStore (cs := #[.int .u64 ((i1 : Int)), .int .i64 ((r1 : Int)), .int .u64 ((f1 : Int)), .int .u64 ((a1 : Int))]) 24 (.tmp 13) (.tmp 57) rfl K13.out rfl rfl info_mark rfl (ones_mark _ _ _ _) rfl ?_; intro w9 hk hg; replace HB := Lib.hid (below_at HB.out hg (by omega) K13.out.lt); replace K4 := Lib.hid (K4.out.grown hg (by omega)); replace K5 := Lib.hid (K5.out.grown hg (by omega)); replace K7 := Lib.hid (K7.out.grown hg (by omega)); replace K13 := Lib.hid hk; have hz9 := hg.size; clear hk hg)
    | (refine F.rowLoad 24 (.tmp 13) rfl K13.out rfl Tryd.underlying24 rfl info_mark rfl ?_)
    | (have _t := tp3; go_at_call 7; refine (P4.out _ (SZ.out.below HB.out)).mono ?_; rintro e w10 ⟨rfl, hb10⟩; replace K4 := Lib.hid (K4.out.below hb10); replace K5 := Lib.hid (K5.out.below hb10); replace K7 := Lib.hid (K7.out.below hb10); replace K13 := Lib.hid (K13.out.below hb10); replace HB := Lib.hid (below_ext HB.out hb10); have hz10 := hb10.size; clear hb10; have tp4 : True := trivial; clear _t tp3)
    | (have _t := tok2; refine F.blkAlloc rfl rfl ?_; intro w11 hk hb11 hz11; replace K4 := Lib.hid (K4.out.below hb11); replace K5 := Lib.hid (K5.out.below hb11); replace K7 := Lib.hid (K7.out.below hb11); replace K13 := Lib.hid (K13.out.below hb11); replace HB := Lib.hid (below_ext HB.out hb11); have K15 := Lib.hid hk; have tok3 : True := trivial; clear hk hb11 _t tok2)
    | (refine F.blkStore (.tmp 15) (.tmp 65) rfl K15.out rfl rfl HX.out rfl ?_; intro w12 hk hg; replace HB := Lib.hid (below_at HB.out hg (by omega) K15.out.lt); replace K4 := Lib.hid (K4.out.grown hg (by omega)); replace K5 := Lib.hid (K5.out.grown hg (by omega)); replace K7 := Lib.hid (K7.out.grown hg (by omega)); replace K13 := Lib.hid (K13.out.grown hg (by omega)); replace K15 := Lib.hid hk; have hz12 := hg.size; clear hk hg)
    | (refine F.blkLoad (.tmp 15) rfl K15.out rfl rfl ?_)
    | (refine F.blkEql (.tmp 70) (.tmp 71) _ rfl rfl rfl HX.out HX.out true (by simp) rfl ?_)
    | (have _t := tp4; go_at_call 13; refine (lives_any _ (SZ.out.below HB.out)).mono ?_; rintro e w13 ⟨rfl, hb13⟩; replace K4 := Lib.hid (K4.out.below hb13); replace K5 := Lib.hid (K5.out.below hb13); replace K7 := Lib.hid (K7.out.below hb13); replace K13 := Lib.hid (K13.out.below hb13); replace K15 := Lib.hid (K15.out.below hb13); replace HB := Lib.hid (below_ext HB.out hb13); have hz13 := hb13.size; clear hb13; have tp5 : True := trivial; clear _t tp4))
  go_ret
  exact ⟨rfl, HB.out⟩
set_option maxRecDepth 100000 in
set_option maxHeartbeats 2000000 in
theorem Back_B02 (n i : Nat) (r : Int) (f a : Nat) (X : List Int) (HL : Hid (X.length = 64)) (xs : List Int) (HX : Hid (xs.length = 64)) (n1 i1 r1 f1 a1 : Nat) (k : Int) (kne : (k != 0) = true) (kne2 : (k == 0) = false) (z : Bool) (hz : z = false)
    (P1 : Hid (∀ w : World, Siz w → Calls Tryd.prog 7 #[.int .u64 (n : Int), magg i r f a] w fun e w' => e = .returned (.tuple #[blk zeros, .int .i64 2]) ∧ Below w.heap.size w w'))
    (P2 : Hid (∀ w : World, Calls Tryd.prog 9 #[magg i r f a] w fun e w' => e = .returned (.bool z) ∧ Below w.heap.size w w'))
    (P3 : Hid (∀ w : World, Siz w → Calls Tryd.prog 14 #[blk xs] w fun e w' => e = .returned (.tuple #[.int .u64 (0), .agg #[.int .u64 (0), .int .i64 (0), .int .u64 (0), .int .u64 (0)], .int .i64 k]) ∧ Below w.heap.size w w')) (w : World) (SZ : Hid (Siz w)) :
    Calls Tryd.prog 5 #[.int .u64 (n : Int), magg i r f a, blk xs] w fun e w' => e = .returned (.bool true) ∧ Below w.heap.size w w' := by
  have HB := Lib.hid (Below.refl w.heap.size w)
  subst hz
  have tok0 : True := trivial
  have tp0 : True := trivial
  go_enter Tryd.func5, Tryd.ntmps5
  go_wp2_with (first
    | (go_skip)
    | (refine F.rowBox 24 (.tmp 1) rfl rfl rfl ?_; intro w1 hk hb1 hz1; replace HB := Lib.hid (below_ext HB.out hb1); have K4 := Lib.hid hk; clear hk hb1)
    | (refine F.blkBox (.tmp 2) rfl rfl HX.out rfl ?_; intro w2 hk hb2 hz2; replace K4 := Lib.hid (K4.out.below hb2); replace HB := Lib.hid (below_ext HB.out hb2); have K5 := Lib.hid hk; clear hk hb2)
    | (refine F.rowLoad 24 (.tmp 4) rfl K4.out rfl Tryd.underlying24 rfl info_mark rfl ?_)
    | (have _t := tp0; go_at_call 7; refine (P1.out _ (SZ.out.below HB.out)).mono ?_; rintro e w3 ⟨rfl, hb3⟩; replace K4 := Lib.hid (K4.out.below hb3); replace K5 := Lib.hid (K5.out.below hb3); replace HB := Lib.hid (below_ext HB.out hb3); have hz3 := hb3.size; clear hb3; have tp1 : True := trivial; clear _t tp0)
    | (have _t := tok0; refine F.blkAlloc rfl rfl ?_; intro w4 hk hb4 hz4; replace K4 := Lib.hid (K4.out.below hb4); replace K5 := Lib.hid (K5.out.below hb4); replace HB := Lib.hid (below_ext HB.out hb4); have K7 := Lib.hid hk; have tok1 : True := trivial; clear hk hb4 _t tok0)
    | (refine F.blkStore (.tmp 7) (.tmp 21) rfl K7.out rfl rfl zeros_length rfl ?_; intro w5 hk hg; replace HB := Lib.hid (below_at HB.out hg (by omega) K7.out.lt); replace K4 := Lib.hid (K4.out.grown hg (by omega)); replace K5 := Lib.hid (K5.out.grown hg (by omega)); replace K7 := Lib.hid hk; have hz5 := hg.size; clear hk hg)
    | (have _t := tp1; go_at_call 9; refine (P2.out _).mono ?_; rintro e w6 ⟨rfl, hb6⟩; replace K4 := Lib.hid (K4.out.below hb6); replace K5 := Lib.hid (K5.out.below hb6); replace K7 := Lib.hid (K7.out.below hb6); replace HB := Lib.hid (below_ext HB.out hb6); have hz6 := hb6.size; clear hb6; have tp2 : True := trivial; clear _t tp1)
    | (refine F.blkLoad (.tmp 5) rfl K5.out rfl rfl ?_)
    | (have _t := tp2; go_at_call 14; refine (P3.out _ (SZ.out.below HB.out)).mono ?_; rintro e w7 ⟨rfl, hb7⟩; replace K4 := Lib.hid (K4.out.below hb7); replace K5 := Lib.hid (K5.out.below hb7); replace K7 := Lib.hid (K7.out.below hb7); replace HB := Lib.hid (below_ext HB.out hb7); have hz7 := hb7.size; clear hb7; have tp3 : True := trivial; clear _t tp2)
    | (have _t := tok1; refine F.rowAlloc 24 rfl _ zero_mark rfl ?_; intro w8 hk hb8 hz8; replace K4 := Lib.hid (K4.out.below hb8); replace K5 := Lib.hid (K5.out.below hb8); replace K7 := Lib.hid (K7.out.below hb8); replace HB := Lib.hid (below_ext HB.out hb8); have K13 := Lib.hid hk; have tok2 : True := trivial; clear hk hb8 _t tok1)
    | (refine F.rowStore (cs := #[.int .u64 (0), .int .i64 (0), .int .u64 (0), .int .u64 (0)]) 24 (.tmp 13) (.tmp 57) rfl K13.out rfl rfl info_mark rfl (ones_mark _ _ _ _) rfl ?_; intro w9 hk hg; replace HB := Lib.hid (below_at HB.out hg (by omega) K13.out.lt); replace K4 := Lib.hid (K4.out.grown hg (by omega)); replace K5 := Lib.hid (K5.out.grown hg (by omega)); replace K7 := Lib.hid (K7.out.grown hg (by omega)); replace K13 := Lib.hid hk; have hz9 := hg.size; clear hk hg)
    | (refine F.rowLoad 24 (.tmp 13) rfl K13.out rfl Tryd.underlying24 rfl info_mark rfl ?_)
    | (refine valStep (run_markEql (.tmp 80) (.tmp 81) _ rfl rfl rfl true (by decide) _) rfl ?_)
    | (have _t := tp3; go_at_call 13; refine (lives_any _ (SZ.out.below HB.out)).mono ?_; rintro e w10 ⟨rfl, hb10⟩; replace K4 := Lib.hid (K4.out.below hb10); replace K5 := Lib.hid (K5.out.below hb10); replace K7 := Lib.hid (K7.out.below hb10); replace K13 := Lib.hid (K13.out.below hb10); replace HB := Lib.hid (below_ext HB.out hb10); have hz10 := hb10.size; clear hb10; have tp4 : True := trivial; clear _t tp3))
  go_ret
  exact ⟨rfl, HB.out⟩
set_option maxRecDepth 100000 in
set_option maxHeartbeats 2000000 in
theorem Back_B11 (n i : Nat) (r : Int) (f a : Nat) (X : List Int) (HL : Hid (X.length = 64)) (xs : List Int) (HX : Hid (xs.length = 64)) (n1 i1 r1 f1 a1 : Nat) (k : Int) (kne : (k != 0) = true) (kne2 : (k == 0) = false) (z : Bool) (hz : z = true) (h1 : n < 1)
    (P1 : Hid (∀ w : World, Siz w → Calls Tryd.prog 7 #[.int .u64 (n : Int), magg i r f a] w fun e w' => e = .returned (.tuple #[blk zeros, .int .i64 2]) ∧ Below w.heap.size w w'))
    (P2 : Hid (∀ w : World, Calls Tryd.prog 9 #[magg i r f a] w fun e w' => e = .returned (.bool z) ∧ Below w.heap.size w w'))
    (P3 : Hid (∀ w : World, Siz w → Calls Tryd.prog 14 #[blk xs] w fun e w' => e = .returned (.tuple #[.int .u64 ((n1 : Int)), .agg #[.int .u64 ((i1 : Int)), .int .i64 ((r1 : Int)), .int .u64 ((f1 : Int)), .int .u64 ((a1 : Int))], .int .i64 0]) ∧ Below w.heap.size w w'))
    (P4 : Hid (∀ w : World, Siz w → Calls Tryd.prog 7 #[.int .u64 (n1 : Int), .agg #[.int .u64 ((i1 : Int)), .int .i64 ((r1 : Int)), .int .u64 ((f1 : Int)), .int .u64 ((a1 : Int))]] w fun e w' => e = .returned (.tuple #[blk xs, .int .i64 0]) ∧ Below w.heap.size w w')) (w : World) (SZ : Hid (Siz w)) :
    Calls Tryd.prog 5 #[.int .u64 (n : Int), magg i r f a, blk xs] w fun e w' => e = .returned (.bool true) ∧ Below w.heap.size w w' := by
  have HB := Lib.hid (Below.refl w.heap.size w)
  subst hz
  have g1 : decide (1 ≤ n) = false := by simp; omega
  have g2 : decide ((1 : Int) ≤ (n : Int)) = false := by simp; omega
  have tok0 : True := trivial
  have tp0 : True := trivial
  go_enter Tryd.func5, Tryd.ntmps5
  go_wp2_with (first
    | (go_skip)
    | (refine F.rowBox 24 (.tmp 1) rfl rfl rfl ?_; intro w1 hk hb1 hz1; replace HB := Lib.hid (below_ext HB.out hb1); have K4 := Lib.hid hk; clear hk hb1)
    | (refine F.blkBox (.tmp 2) rfl rfl HX.out rfl ?_; intro w2 hk hb2 hz2; replace K4 := Lib.hid (K4.out.below hb2); replace HB := Lib.hid (below_ext HB.out hb2); have K5 := Lib.hid hk; clear hk hb2)
    | (refine F.rowLoad 24 (.tmp 4) rfl K4.out rfl Tryd.underlying24 rfl info_mark rfl ?_)
    | (have _t := tp0; go_at_call 7; refine (P1.out _ (SZ.out.below HB.out)).mono ?_; rintro e w3 ⟨rfl, hb3⟩; replace K4 := Lib.hid (K4.out.below hb3); replace K5 := Lib.hid (K5.out.below hb3); replace HB := Lib.hid (below_ext HB.out hb3); have hz3 := hb3.size; clear hb3; have tp1 : True := trivial; clear _t tp0)
    | (have _t := tok0; refine F.blkAlloc rfl rfl ?_; intro w4 hk hb4 hz4; replace K4 := Lib.hid (K4.out.below hb4); replace K5 := Lib.hid (K5.out.below hb4); replace HB := Lib.hid (below_ext HB.out hb4); have K7 := Lib.hid hk; have tok1 : True := trivial; clear hk hb4 _t tok0)
    | (refine F.blkStore (.tmp 7) (.tmp 21) rfl K7.out rfl rfl zeros_length rfl ?_; intro w5 hk hg; replace HB := Lib.hid (below_at HB.out hg (by omega) K7.out.lt); replace K4 := Lib.hid (K4.out.grown hg (by omega)); replace K5 := Lib.hid (K5.out.grown hg (by omega)); replace K7 := Lib.hid hk; have hz5 := hg.size; clear hk hg)
    | (have _t := tp1; go_at_call 9; refine (P2.out _).mono ?_; rintro e w6 ⟨rfl, hb6⟩; replace K4 := Lib.hid (K4.out.below hb6); replace K5 := Lib.hid (K5.out.below hb6); replace K7 := Lib.hid (K7.out.below hb6); replace HB := Lib.hid (below_ext HB.out hb6); have hz6 := hb6.size; clear hb6; have tp2 : True := trivial; clear _t tp1)
    | (refine F.blkLoad (.tmp 5) rfl K5.out rfl rfl ?_)
    | (have _t := tp2; go_at_call 14; refine (P3.out _ (SZ.out.below HB.out)).mono ?_; rintro e w7 ⟨rfl, hb7⟩; replace K4 := Lib.hid (K4.out.below hb7); replace K5 := Lib.hid (K5.out.below hb7); replace K7 := Lib.hid (K7.out.below hb7); replace HB := Lib.hid (below_ext HB.out hb7); have hz7 := hb7.size; clear hb7; have tp3 : True := trivial; clear _t tp2)
    | (have _t := tok1; refine F.rowAlloc 24 rfl _ zero_mark rfl ?_; intro w8 hk hb8 hz8; replace K4 := Lib.hid (K4.out.below hb8); replace K5 := Lib.hid (K5.out.below hb8); replace K7 := Lib.hid (K7.out.below hb8); replace HB := Lib.hid (below_ext HB.out hb8); have K13 := Lib.hid hk; have tok2 : True := trivial; clear hk hb8 _t tok1)
    | (refine F.rowStore (cs := #[.int .u64 ((i1 : Int)), .int .i64 ((r1 : Int)), .int .u64 ((f1 : Int)), .int .u64 ((a1 : Int))]) 24 (.tmp 13) (.tmp 57) rfl K13.out rfl rfl info_mark rfl (ones_mark _ _ _ _) rfl ?_; intro w9 hk hg; replace HB := Lib.hid (below_at HB.out hg (by omega) K13.out.lt); replace K4 := Lib.hid (K4.out.grown hg (by omega)); replace K5 := Lib.hid (K5.out.grown hg (by omega)); replace K7 := Lib.hid (K7.out.grown hg (by omega)); replace K13 := Lib.hid hk; have hz9 := hg.size; clear hk hg)
    | (refine F.rowLoad 24 (.tmp 13) rfl K13.out rfl Tryd.underlying24 rfl info_mark rfl ?_)
    | (have _t := tp3; go_at_call 7; refine (P4.out _ (SZ.out.below HB.out)).mono ?_; rintro e w10 ⟨rfl, hb10⟩; replace K4 := Lib.hid (K4.out.below hb10); replace K5 := Lib.hid (K5.out.below hb10); replace K7 := Lib.hid (K7.out.below hb10); replace K13 := Lib.hid (K13.out.below hb10); replace HB := Lib.hid (below_ext HB.out hb10); have hz10 := hb10.size; clear hb10; have tp4 : True := trivial; clear _t tp3)
    | (have _t := tok2; refine F.blkAlloc rfl rfl ?_; intro w11 hk hb11 hz11; replace K4 := Lib.hid (K4.out.below hb11); replace K5 := Lib.hid (K5.out.below hb11); replace K7 := Lib.hid (K7.out.below hb11); replace K13 := Lib.hid (K13.out.below hb11); replace HB := Lib.hid (below_ext HB.out hb11); have K15 := Lib.hid hk; have tok3 : True := trivial; clear hk hb11 _t tok2)
    | (refine F.blkStore (.tmp 15) (.tmp 65) rfl K15.out rfl rfl HX.out rfl ?_; intro w12 hk hg; replace HB := Lib.hid (below_at HB.out hg (by omega) K15.out.lt); replace K4 := Lib.hid (K4.out.grown hg (by omega)); replace K5 := Lib.hid (K5.out.grown hg (by omega)); replace K7 := Lib.hid (K7.out.grown hg (by omega)); replace K13 := Lib.hid (K13.out.grown hg (by omega)); replace K15 := Lib.hid hk; have hz12 := hg.size; clear hk hg)
    | (refine F.blkLoad (.tmp 15) rfl K15.out rfl rfl ?_)
    | (refine F.blkEql (.tmp 70) (.tmp 71) _ rfl rfl rfl HX.out HX.out true (by simp) rfl ?_)
    | (have _t := tp4; go_at_call 13; refine (lives_any _ (SZ.out.below HB.out)).mono ?_; rintro e w13 ⟨rfl, hb13⟩; replace K4 := Lib.hid (K4.out.below hb13); replace K5 := Lib.hid (K5.out.below hb13); replace K7 := Lib.hid (K7.out.below hb13); replace K13 := Lib.hid (K13.out.below hb13); replace K15 := Lib.hid (K15.out.below hb13); replace HB := Lib.hid (below_ext HB.out hb13); have hz13 := hb13.size; clear hb13; have tp5 : True := trivial; clear _t tp4))
  go_ret
  exact ⟨rfl, HB.out⟩
set_option maxRecDepth 100000 in
set_option maxHeartbeats 2000000 in
theorem Back_B12 (n i : Nat) (r : Int) (f a : Nat) (X : List Int) (HL : Hid (X.length = 64)) (xs : List Int) (HX : Hid (xs.length = 64)) (n1 i1 r1 f1 a1 : Nat) (k : Int) (kne : (k != 0) = true) (kne2 : (k == 0) = false) (z : Bool) (hz : z = true) (h1 : n < 1)
    (P1 : Hid (∀ w : World, Siz w → Calls Tryd.prog 7 #[.int .u64 (n : Int), magg i r f a] w fun e w' => e = .returned (.tuple #[blk zeros, .int .i64 2]) ∧ Below w.heap.size w w'))
    (P2 : Hid (∀ w : World, Calls Tryd.prog 9 #[magg i r f a] w fun e w' => e = .returned (.bool z) ∧ Below w.heap.size w w'))
    (P3 : Hid (∀ w : World, Siz w → Calls Tryd.prog 14 #[blk xs] w fun e w' => e = .returned (.tuple #[.int .u64 (0), .agg #[.int .u64 (0), .int .i64 (0), .int .u64 (0), .int .u64 (0)], .int .i64 k]) ∧ Below w.heap.size w w')) (w : World) (SZ : Hid (Siz w)) :
    Calls Tryd.prog 5 #[.int .u64 (n : Int), magg i r f a, blk xs] w fun e w' => e = .returned (.bool true) ∧ Below w.heap.size w w' := by
  have HB := Lib.hid (Below.refl w.heap.size w)
  subst hz
  have g1 : decide (1 ≤ n) = false := by simp; omega
  have g2 : decide ((1 : Int) ≤ (n : Int)) = false := by simp; omega
  have tok0 : True := trivial
  have tp0 : True := trivial
  go_enter Tryd.func5, Tryd.ntmps5
  go_wp2_with (first
    | (go_skip)
    | (refine F.rowBox 24 (.tmp 1) rfl rfl rfl ?_; intro w1 hk hb1 hz1; replace HB := Lib.hid (below_ext HB.out hb1); have K4 := Lib.hid hk; clear hk hb1)
    | (refine F.blkBox (.tmp 2) rfl rfl HX.out rfl ?_; intro w2 hk hb2 hz2; replace K4 := Lib.hid (K4.out.below hb2); replace HB := Lib.hid (below_ext HB.out hb2); have K5 := Lib.hid hk; clear hk hb2)
    | (refine F.rowLoad 24 (.tmp 4) rfl K4.out rfl Tryd.underlying24 rfl info_mark rfl ?_)
    | (have _t := tp0; go_at_call 7; refine (P1.out _ (SZ.out.below HB.out)).mono ?_; rintro e w3 ⟨rfl, hb3⟩; replace K4 := Lib.hid (K4.out.below hb3); replace K5 := Lib.hid (K5.out.below hb3); replace HB := Lib.hid (below_ext HB.out hb3); have hz3 := hb3.size; clear hb3; have tp1 : True := trivial; clear _t tp0)
    | (have _t := tok0; refine F.blkAlloc rfl rfl ?_; intro w4 hk hb4 hz4; replace K4 := Lib.hid (K4.out.below hb4); replace K5 := Lib.hid (K5.out.below hb4); replace HB := Lib.hid (below_ext HB.out hb4); have K7 := Lib.hid hk; have tok1 : True := trivial; clear hk hb4 _t tok0)
    | (refine F.blkStore (.tmp 7) (.tmp 21) rfl K7.out rfl rfl zeros_length rfl ?_; intro w5 hk hg; replace HB := Lib.hid (below_at HB.out hg (by omega) K7.out.lt); replace K4 := Lib.hid (K4.out.grown hg (by omega)); replace K5 := Lib.hid (K5.out.grown hg (by omega)); replace K7 := Lib.hid hk; have hz5 := hg.size; clear hk hg)
    | (have _t := tp1; go_at_call 9; refine (P2.out _).mono ?_; rintro e w6 ⟨rfl, hb6⟩; replace K4 := Lib.hid (K4.out.below hb6); replace K5 := Lib.hid (K5.out.below hb6); replace K7 := Lib.hid (K7.out.below hb6); replace HB := Lib.hid (below_ext HB.out hb6); have hz6 := hb6.size; clear hb6; have tp2 : True := trivial; clear _t tp1)
    | (refine F.blkLoad (.tmp 5) rfl K5.out rfl rfl ?_)
    | (have _t := tp2; go_at_call 14; refine (P3.out _ (SZ.out.below HB.out)).mono ?_; rintro e w7 ⟨rfl, hb7⟩; replace K4 := Lib.hid (K4.out.below hb7); replace K5 := Lib.hid (K5.out.below hb7); replace K7 := Lib.hid (K7.out.below hb7); replace HB := Lib.hid (below_ext HB.out hb7); have hz7 := hb7.size; clear hb7; have tp3 : True := trivial; clear _t tp2)
    | (have _t := tok1; refine F.rowAlloc 24 rfl _ zero_mark rfl ?_; intro w8 hk hb8 hz8; replace K4 := Lib.hid (K4.out.below hb8); replace K5 := Lib.hid (K5.out.below hb8); replace K7 := Lib.hid (K7.out.below hb8); replace HB := Lib.hid (below_ext HB.out hb8); have K13 := Lib.hid hk; have tok2 : True := trivial; clear hk hb8 _t tok1)
    | (refine F.rowStore (cs := #[.int .u64 (0), .int .i64 (0), .int .u64 (0), .int .u64 (0)]) 24 (.tmp 13) (.tmp 57) rfl K13.out rfl rfl info_mark rfl (ones_mark _ _ _ _) rfl ?_; intro w9 hk hg; replace HB := Lib.hid (below_at HB.out hg (by omega) K13.out.lt); replace K4 := Lib.hid (K4.out.grown hg (by omega)); replace K5 := Lib.hid (K5.out.grown hg (by omega)); replace K7 := Lib.hid (K7.out.grown hg (by omega)); replace K13 := Lib.hid hk; have hz9 := hg.size; clear hk hg)
    | (refine F.rowLoad 24 (.tmp 13) rfl K13.out rfl Tryd.underlying24 rfl info_mark rfl ?_)
    | (refine valStep (run_markEql (.tmp 80) (.tmp 81) _ rfl rfl rfl true (by decide) _) rfl ?_)
    | (have _t := tp3; go_at_call 13; refine (lives_any _ (SZ.out.below HB.out)).mono ?_; rintro e w10 ⟨rfl, hb10⟩; replace K4 := Lib.hid (K4.out.below hb10); replace K5 := Lib.hid (K5.out.below hb10); replace K7 := Lib.hid (K7.out.below hb10); replace K13 := Lib.hid (K13.out.below hb10); replace HB := Lib.hid (below_ext HB.out hb10); have hz10 := hb10.size; clear hb10; have tp4 : True := trivial; clear _t tp3))
  go_ret
  exact ⟨rfl, HB.out⟩
set_option maxRecDepth 100000 in
set_option maxHeartbeats 2000000 in
theorem Back_B21 (n i : Nat) (r : Int) (f a : Nat) (X : List Int) (HL : Hid (X.length = 64)) (xs : List Int) (HX : Hid (xs.length = 64)) (n1 i1 r1 f1 a1 : Nat) (k : Int) (kne : (k != 0) = true) (kne2 : (k == 0) = false) (z : Bool) (hz : z = true) (h1 : 1 ≤ n) (h2 : 4611686018427387904 < n)
    (P1 : Hid (∀ w : World, Siz w → Calls Tryd.prog 7 #[.int .u64 (n : Int), magg i r f a] w fun e w' => e = .returned (.tuple #[blk zeros, .int .i64 2]) ∧ Below w.heap.size w w'))
    (P2 : Hid (∀ w : World, Calls Tryd.prog 9 #[magg i r f a] w fun e w' => e = .returned (.bool z) ∧ Below w.heap.size w w'))
    (P3 : Hid (∀ w : World, Siz w → Calls Tryd.prog 14 #[blk xs] w fun e w' => e = .returned (.tuple #[.int .u64 ((n1 : Int)), .agg #[.int .u64 ((i1 : Int)), .int .i64 ((r1 : Int)), .int .u64 ((f1 : Int)), .int .u64 ((a1 : Int))], .int .i64 0]) ∧ Below w.heap.size w w'))
    (P4 : Hid (∀ w : World, Siz w → Calls Tryd.prog 7 #[.int .u64 (n1 : Int), .agg #[.int .u64 ((i1 : Int)), .int .i64 ((r1 : Int)), .int .u64 ((f1 : Int)), .int .u64 ((a1 : Int))]] w fun e w' => e = .returned (.tuple #[blk xs, .int .i64 0]) ∧ Below w.heap.size w w')) (w : World) (SZ : Hid (Siz w)) :
    Calls Tryd.prog 5 #[.int .u64 (n : Int), magg i r f a, blk xs] w fun e w' => e = .returned (.bool true) ∧ Below w.heap.size w w' := by
  have HB := Lib.hid (Below.refl w.heap.size w)
  subst hz
  have g1 : decide (1 ≤ n) = true := by simp; omega
  have g2 : decide ((1 : Int) ≤ (n : Int)) = true := by simp; omega
  have g3 : decide (n ≤ 4611686018427387904) = false := by simp; omega
  have g4 : decide ((n : Int) ≤ (4611686018427387904 : Int)) = false := by simp; omega
  have tok0 : True := trivial
  have tp0 : True := trivial
  go_enter Tryd.func5, Tryd.ntmps5
  go_wp2_with (first
    | (go_skip)
    | (refine F.rowBox 24 (.tmp 1) rfl rfl rfl ?_; intro w1 hk hb1 hz1; replace HB := Lib.hid (below_ext HB.out hb1); have K4 := Lib.hid hk; clear hk hb1)
    | (refine F.blkBox (.tmp 2) rfl rfl HX.out rfl ?_; intro w2 hk hb2 hz2; replace K4 := Lib.hid (K4.out.below hb2); replace HB := Lib.hid (below_ext HB.out hb2); have K5 := Lib.hid hk; clear hk hb2)
    | (refine F.rowLoad 24 (.tmp 4) rfl K4.out rfl Tryd.underlying24 rfl info_mark rfl ?_)
    | (have _t := tp0; go_at_call 7; refine (P1.out _ (SZ.out.below HB.out)).mono ?_; rintro e w3 ⟨rfl, hb3⟩; replace K4 := Lib.hid (K4.out.below hb3); replace K5 := Lib.hid (K5.out.below hb3); replace HB := Lib.hid (below_ext HB.out hb3); have hz3 := hb3.size; clear hb3; have tp1 : True := trivial; clear _t tp0)
    | (have _t := tok0; refine F.blkAlloc rfl rfl ?_; intro w4 hk hb4 hz4; replace K4 := Lib.hid (K4.out.below hb4); replace K5 := Lib.hid (K5.out.below hb4); replace HB := Lib.hid (below_ext HB.out hb4); have K7 := Lib.hid hk; have tok1 : True := trivial; clear hk hb4 _t tok0)
    | (refine F.blkStore (.tmp 7) (.tmp 21) rfl K7.out rfl rfl zeros_length rfl ?_; intro w5 hk hg; replace HB := Lib.hid (below_at HB.out hg (by omega) K7.out.lt); replace K4 := Lib.hid (K4.out.grown hg (by omega)); replace K5 := Lib.hid (K5.out.grown hg (by omega)); replace K7 := Lib.hid hk; have hz5 := hg.size; clear hk hg)
    | (have _t := tp1; go_at_call 9; refine (P2.out _).mono ?_; rintro e w6 ⟨rfl, hb6⟩; replace K4 := Lib.hid (K4.out.below hb6); replace K5 := Lib.hid (K5.out.below hb6); replace K7 := Lib.hid (K7.out.below hb6); replace HB := Lib.hid (below_ext HB.out hb6); have hz6 := hb6.size; clear hb6; have tp2 : True := trivial; clear _t tp1)
    | (refine F.blkLoad (.tmp 5) rfl K5.out rfl rfl ?_)
    | (have _t := tp2; go_at_call 14; refine (P3.out _ (SZ.out.below HB.out)).mono ?_; rintro e w7 ⟨rfl, hb7⟩; replace K4 := Lib.hid (K4.out.below hb7); replace K5 := Lib.hid (K5.out.below hb7); replace K7 := Lib.hid (K7.out.below hb7); replace HB := Lib.hid (below_ext HB.out hb7); have hz7 := hb7.size; clear hb7; have tp3 : True := trivial; clear _t tp2)
    | (have _t := tok1; refine F.rowAlloc 24 rfl _ zero_mark rfl ?_; intro w8 hk hb8 hz8; replace K4 := Lib.hid (K4.out.below hb8); replace K5 := Lib.hid (K5.out.below hb8); replace K7 := Lib.hid (K7.out.below hb8); replace HB := Lib.hid (below_ext HB.out hb8); have K13 := Lib.hid hk; have tok2 : True := trivial; clear hk hb8 _t tok1)
    | (refine F.rowStore (cs := #[.int .u64 ((i1 : Int)), .int .i64 ((r1 : Int)), .int .u64 ((f1 : Int)), .int .u64 ((a1 : Int))]) 24 (.tmp 13) (.tmp 57) rfl K13.out rfl rfl info_mark rfl (ones_mark _ _ _ _) rfl ?_; intro w9 hk hg; replace HB := Lib.hid (below_at HB.out hg (by omega) K13.out.lt); replace K4 := Lib.hid (K4.out.grown hg (by omega)); replace K5 := Lib.hid (K5.out.grown hg (by omega)); replace K7 := Lib.hid (K7.out.grown hg (by omega)); replace K13 := Lib.hid hk; have hz9 := hg.size; clear hk hg)
    | (refine F.rowLoad 24 (.tmp 13) rfl K13.out rfl Tryd.underlying24 rfl info_mark rfl ?_)
    | (have _t := tp3; go_at_call 7; refine (P4.out _ (SZ.out.below HB.out)).mono ?_; rintro e w10 ⟨rfl, hb10⟩; replace K4 := Lib.hid (K4.out.below hb10); replace K5 := Lib.hid (K5.out.below hb10); replace K7 := Lib.hid (K7.out.below hb10); replace K13 := Lib.hid (K13.out.below hb10); replace HB := Lib.hid (below_ext HB.out hb10); have hz10 := hb10.size; clear hb10; have tp4 : True := trivial; clear _t tp3)
    | (have _t := tok2; refine F.blkAlloc rfl rfl ?_; intro w11 hk hb11 hz11; replace K4 := Lib.hid (K4.out.below hb11); replace K5 := Lib.hid (K5.out.below hb11); replace K7 := Lib.hid (K7.out.below hb11); replace K13 := Lib.hid (K13.out.below hb11); replace HB := Lib.hid (below_ext HB.out hb11); have K15 := Lib.hid hk; have tok3 : True := trivial; clear hk hb11 _t tok2)
    | (refine F.blkStore (.tmp 15) (.tmp 65) rfl K15.out rfl rfl HX.out rfl ?_; intro w12 hk hg; replace HB := Lib.hid (below_at HB.out hg (by omega) K15.out.lt); replace K4 := Lib.hid (K4.out.grown hg (by omega)); replace K5 := Lib.hid (K5.out.grown hg (by omega)); replace K7 := Lib.hid (K7.out.grown hg (by omega)); replace K13 := Lib.hid (K13.out.grown hg (by omega)); replace K15 := Lib.hid hk; have hz12 := hg.size; clear hk hg)
    | (refine F.blkLoad (.tmp 15) rfl K15.out rfl rfl ?_)
    | (refine F.blkEql (.tmp 70) (.tmp 71) _ rfl rfl rfl HX.out HX.out true (by simp) rfl ?_)
    | (have _t := tp4; go_at_call 13; refine (lives_any _ (SZ.out.below HB.out)).mono ?_; rintro e w13 ⟨rfl, hb13⟩; replace K4 := Lib.hid (K4.out.below hb13); replace K5 := Lib.hid (K5.out.below hb13); replace K7 := Lib.hid (K7.out.below hb13); replace K13 := Lib.hid (K13.out.below hb13); replace K15 := Lib.hid (K15.out.below hb13); replace HB := Lib.hid (below_ext HB.out hb13); have hz13 := hb13.size; clear hb13; have tp5 : True := trivial; clear _t tp4))
  go_ret
  exact ⟨rfl, HB.out⟩
set_option maxRecDepth 100000 in
set_option maxHeartbeats 2000000 in
theorem Back_B22 (n i : Nat) (r : Int) (f a : Nat) (X : List Int) (HL : Hid (X.length = 64)) (xs : List Int) (HX : Hid (xs.length = 64)) (n1 i1 r1 f1 a1 : Nat) (k : Int) (kne : (k != 0) = true) (kne2 : (k == 0) = false) (z : Bool) (hz : z = true) (h1 : 1 ≤ n) (h2 : 4611686018427387904 < n)
    (P1 : Hid (∀ w : World, Siz w → Calls Tryd.prog 7 #[.int .u64 (n : Int), magg i r f a] w fun e w' => e = .returned (.tuple #[blk zeros, .int .i64 2]) ∧ Below w.heap.size w w'))
    (P2 : Hid (∀ w : World, Calls Tryd.prog 9 #[magg i r f a] w fun e w' => e = .returned (.bool z) ∧ Below w.heap.size w w'))
    (P3 : Hid (∀ w : World, Siz w → Calls Tryd.prog 14 #[blk xs] w fun e w' => e = .returned (.tuple #[.int .u64 (0), .agg #[.int .u64 (0), .int .i64 (0), .int .u64 (0), .int .u64 (0)], .int .i64 k]) ∧ Below w.heap.size w w')) (w : World) (SZ : Hid (Siz w)) :
    Calls Tryd.prog 5 #[.int .u64 (n : Int), magg i r f a, blk xs] w fun e w' => e = .returned (.bool true) ∧ Below w.heap.size w w' := by
  have HB := Lib.hid (Below.refl w.heap.size w)
  subst hz
  have g1 : decide (1 ≤ n) = true := by simp; omega
  have g2 : decide ((1 : Int) ≤ (n : Int)) = true := by simp; omega
  have g3 : decide (n ≤ 4611686018427387904) = false := by simp; omega
  have g4 : decide ((n : Int) ≤ (4611686018427387904 : Int)) = false := by simp; omega
  have tok0 : True := trivial
  have tp0 : True := trivial
  go_enter Tryd.func5, Tryd.ntmps5
  go_wp2_with (first
    | (go_skip)
    | (refine F.rowBox 24 (.tmp 1) rfl rfl rfl ?_; intro w1 hk hb1 hz1; replace HB := Lib.hid (below_ext HB.out hb1); have K4 := Lib.hid hk; clear hk hb1)
    | (refine F.blkBox (.tmp 2) rfl rfl HX.out rfl ?_; intro w2 hk hb2 hz2; replace K4 := Lib.hid (K4.out.below hb2); replace HB := Lib.hid (below_ext HB.out hb2); have K5 := Lib.hid hk; clear hk hb2)
    | (refine F.rowLoad 24 (.tmp 4) rfl K4.out rfl Tryd.underlying24 rfl info_mark rfl ?_)
    | (have _t := tp0; go_at_call 7; refine (P1.out _ (SZ.out.below HB.out)).mono ?_; rintro e w3 ⟨rfl, hb3⟩; replace K4 := Lib.hid (K4.out.below hb3); replace K5 := Lib.hid (K5.out.below hb3); replace HB := Lib.hid (below_ext HB.out hb3); have hz3 := hb3.size; clear hb3; have tp1 : True := trivial; clear _t tp0)
    | (have _t := tok0; refine F.blkAlloc rfl rfl ?_; intro w4 hk hb4 hz4; replace K4 := Lib.hid (K4.out.below hb4); replace K5 := Lib.hid (K5.out.below hb4); replace HB := Lib.hid (below_ext HB.out hb4); have K7 := Lib.hid hk; have tok1 : True := trivial; clear hk hb4 _t tok0)
    | (refine F.blkStore (.tmp 7) (.tmp 21) rfl K7.out rfl rfl zeros_length rfl ?_; intro w5 hk hg; replace HB := Lib.hid (below_at HB.out hg (by omega) K7.out.lt); replace K4 := Lib.hid (K4.out.grown hg (by omega)); replace K5 := Lib.hid (K5.out.grown hg (by omega)); replace K7 := Lib.hid hk; have hz5 := hg.size; clear hk hg)
    | (have _t := tp1; go_at_call 9; refine (P2.out _).mono ?_; rintro e w6 ⟨rfl, hb6⟩; replace K4 := Lib.hid (K4.out.below hb6); replace K5 := Lib.hid (K5.out.below hb6); replace K7 := Lib.hid (K7.out.below hb6); replace HB := Lib.hid (below_ext HB.out hb6); have hz6 := hb6.size; clear hb6; have tp2 : True := trivial; clear _t tp1)
    | (refine F.blkLoad (.tmp 5) rfl K5.out rfl rfl ?_)
    | (have _t := tp2; go_at_call 14; refine (P3.out _ (SZ.out.below HB.out)).mono ?_; rintro e w7 ⟨rfl, hb7⟩; replace K4 := Lib.hid (K4.out.below hb7); replace K5 := Lib.hid (K5.out.below hb7); replace K7 := Lib.hid (K7.out.below hb7); replace HB := Lib.hid (below_ext HB.out hb7); have hz7 := hb7.size; clear hb7; have tp3 : True := trivial; clear _t tp2)
    | (have _t := tok1; refine F.rowAlloc 24 rfl _ zero_mark rfl ?_; intro w8 hk hb8 hz8; replace K4 := Lib.hid (K4.out.below hb8); replace K5 := Lib.hid (K5.out.below hb8); replace K7 := Lib.hid (K7.out.below hb8); replace HB := Lib.hid (below_ext HB.out hb8); have K13 := Lib.hid hk; have tok2 : True := trivial; clear hk hb8 _t tok1)
    | (refine F.rowStore (cs := #[.int .u64 (0), .int .i64 (0), .int .u64 (0), .int .u64 (0)]) 24 (.tmp 13) (.tmp 57) rfl K13.out rfl rfl info_mark rfl (ones_mark _ _ _ _) rfl ?_; intro w9 hk hg; replace HB := Lib.hid (below_at HB.out hg (by omega) K13.out.lt); replace K4 := Lib.hid (K4.out.grown hg (by omega)); replace K5 := Lib.hid (K5.out.grown hg (by omega)); replace K7 := Lib.hid (K7.out.grown hg (by omega)); replace K13 := Lib.hid hk; have hz9 := hg.size; clear hk hg)
    | (refine F.rowLoad 24 (.tmp 13) rfl K13.out rfl Tryd.underlying24 rfl info_mark rfl ?_)
    | (refine valStep (run_markEql (.tmp 80) (.tmp 81) _ rfl rfl rfl true (by decide) _) rfl ?_)
    | (have _t := tp3; go_at_call 13; refine (lives_any _ (SZ.out.below HB.out)).mono ?_; rintro e w10 ⟨rfl, hb10⟩; replace K4 := Lib.hid (K4.out.below hb10); replace K5 := Lib.hid (K5.out.below hb10); replace K7 := Lib.hid (K7.out.below hb10); replace K13 := Lib.hid (K13.out.below hb10); replace HB := Lib.hid (below_ext HB.out hb10); have hz10 := hb10.size; clear hb10; have tp4 : True := trivial; clear _t tp3))
  go_ret
  exact ⟨rfl, HB.out⟩
end Go.Proofs.YtdchcggllcgokaaDoor.K

namespace Go.Proofs.YtdchcggllcgokaaDoor.K
open Go.RowKit Go.Proofs.YtdchcggllcgokaaDoor.L Go.Proofs.YtdchcggllcgokaaDoor.U Go.Proofs.YtdchcggllcgokaaDoor.R Go.Proofs.YtdchcggllcgokaaDoor.E Go.Proofs.YtdchcggllcgokaaDoorW.PrintWords
set_option linter.unusedVariables false
set_option linter.unusedSimpArgs false
theorem i64_bounds {n : Int} (h : (Lit.int .i64 n).wf = true) : -9223372036854775808 ≤ n ∧ n ≤ 9223372036854775807 := by
  obtain ⟨h1, h2⟩ := bounds_i64 h
  exact ⟨by omega, by omega⟩
theorem u64_nat {n : Int} (h : (Lit.int .u64 n).wf = true) : ∃ k : Nat, n = k ∧ k < 18446744073709551616 := by
  obtain ⟨h1, h2⟩ := bounds_u64 h
  exact ⟨n.toNat, by omega, by omega⟩
theorem puts_row (n : Int) (wn : (Lit.int .u64 n).wf = true) (i : Int) (wi : (Lit.int .u64 i).wf = true) (r : Int) (wr : (Lit.int .i64 r).wf = true) (f : Int) (wf : (Lit.int .u64 f).wf = true) (a : Int) (wa : (Lit.int .u64 a).wf = true) (w : World) (SZ : Siz w) :
    Calls Tryd.prog 3 #[.int .u64 n, .agg #[.int .u64 i, .int .i64 r, .int .u64 f, .int .u64 a]] w fun e w' => e = .returned (.bool true) ∧ Below w.heap.size w w' := by
  obtain ⟨n, rfl, hn⟩ := u64_nat wn
  obtain ⟨i, rfl, hi⟩ := u64_nat wi
  obtain ⟨f, rfl, hf⟩ := u64_nat wf
  obtain ⟨a, rfl, ha⟩ := u64_nat wa
  exact puts_any n i r f a hn hi (i64_bounds wr) hf ha w SZ
theorem gets_row (l : List Int) (hl : l.length = 64) (hw : ∀ x ∈ l, (Lit.int .u8 x).wf = true) (n : Int) (wn : (Lit.int .u64 n).wf = true) (B : Option Addr) (cap : Nat) (ys : List Int) {w : World} (hr : ReadsInt w .u8 B ys.length ys) (y : ys.length * 1 ≤ 140737488351232) (hy : ∀ x ∈ ys, (Lit.int .u8 x).wf = true) (hc : ys.length ≤ cap) (SZ : Siz w) :
    Calls Tryd.prog 4 #[blk l, .int .u64 n, .slice B ys.length cap] w fun e w' => e = .returned (.bool true) ∧ Below w.heap.size w w' := by
  obtain ⟨n, rfl, hn⟩ := u64_nat wn
  exact gets_any l hl hw n hn B cap ys hy w hr SZ
theorem gotM_lt {xs : List Int} (hw : Wf8 xs) {n i r f a : Nat} {k : Int} (h : gotM xs = ((n, i, r, f, a), k)) : i < 18446744073709551616 := by
  obtain ⟨⟨m, D, j⟩, hg⟩ : ∃ q, gots xs = q := ⟨_, rfl⟩
  have hi : i = 0 ∨ i = gI D := by
    by_cases h0 : j = 0
    · subst h0
      rw [gotM_ok hg] at h
      split at h
      · exact .inr (congrArg (fun z => z.1.2.1) h).symm
      · exact .inl (congrArg (fun z => z.1.2.1) h).symm
    · rw [gotM_err (by rw [hg]; exact h0)] at h
      exact .inl (congrArg (fun z => z.1.2.1) h).symm
  rcases hi with rfl | rfl
  · omega
  · rw [gI]
    refine vle_lt _ (fun t => ?_) 8
    have hD : Wf8 D := by
      unfold gots at hg
      split at hg
      · have e := congrArg (fun z => z.2.1) hg; simp only at e; rw [← e]; intro x hx; cases hx
      · split at hg
        · have e := congrArg (fun z => z.2.1) hg; simp only at e; rw [← e]; intro x hx; cases hx
        · have e := congrArg (fun z => z.2.1) hg; simp only at e; rw [← e]; exact inner_wf hw
    exact bat_lt hD 0 t
theorem back_any (n i : Nat) (r : Int) (f a : Nat) (hn : n < 18446744073709551616) (hi : i < 18446744073709551616) (hr : -9223372036854775808 ≤ r ∧ r ≤ 9223372036854775807) (hf : f < 18446744073709551616) (ha : a < 18446744073709551616) (xs : List Int) (hl : xs.length = 64) (hw : Wf8 xs) (w : World) (SZ : Siz w) :
    Calls Tryd.prog 5 #[.int .u64 (n : Int), magg i r f a, blk xs] w fun e w' => e = .returned (.bool true) ∧ Below w.heap.size w w' := by
  obtain ⟨⟨⟨n1, i1, r1, f1, a1⟩, k1⟩, h1⟩ : ∃ q, gotM xs = q := ⟨_, rfl⟩
  have G := get_e hl hw h1
  have hq : k1 = 0 → ∀ w : World, Siz w → Calls Tryd.prog 7 #[.int .u64 (n1 : Int), magg i1 (r1 : Int) f1 a1] w fun e w' => e = .returned (.tuple #[blk xs, .int .i64 0]) ∧ Below w.heap.size w w' := fun hk => by
    subst hk
    obtain ⟨b1, b2⟩ := gotM_back hl hw h1
    have b6 := okM_ok b1
    have b7 : i1 < 18446744073709551616 := by
      have hi := gotM_lt hw h1
      exact hi
    intro w SZ
    have h := Put_any n1 i1 (r1 : Int) f1 a1 (by omega) b7 ⟨by omega, by omega⟩ (by omega) (by omega) w SZ
    rw [mark_ok b1, b2] at h
    exact h
  have hz : k1 ≠ 0 → n1 = 0 ∧ i1 = 0 ∧ r1 = 0 ∧ f1 = 0 ∧ a1 = 0 := fun hk => by
    have h := gotM_no h1 hk
    exact ⟨congrArg (fun z => z.1) h, congrArg (fun z => z.2.1) h, congrArg (fun z => z.2.2.1) h, congrArg (fun z => z.2.2.2.1) h, congrArg (fun z => z.2.2.2.2) h⟩
  clear h1
  by_cases hM : okM n i r f a = true
  · have hM' := okM_ok hM
    obtain ⟨r, rfl⟩ : ∃ d : Nat, r = d := ⟨r.toNat, by omega⟩
    have hp := fun w (SZ : Siz w) => Put_any n i (r : Int) f a hn hi hr hf ha w SZ
    rw [mark_ok hM] at hp
    have X1 : (sealed n (mbody i r f a)).length = 64 := sealed_length (by rw [mbody_length]; omega)
    have Xw : Wf8 (sealed n (mbody i r f a)) := sealed_wf n (mbody_wf i r f a)
    have g := get_e X1 Xw (gotM_put hM hi hf ha)
    generalize sealed n (mbody i r f a) = X at *
    by_cases hk : k1 = 0
    · have hq2 := hq hk
      subst hk
      exact Back_A1 n i (r : Int) f a X (Lib.hid X1) xs (Lib.hid hl) n1 i1 r1 f1 a1 1 rfl rfl (Lib.hid hp) (Lib.hid g) (Lib.hid G) (Lib.hid hq2) w (Lib.hid SZ)
    · obtain ⟨rfl, rfl, rfl, rfl, rfl⟩ := hz hk
      exact Back_A2 n i (r : Int) f a X (Lib.hid X1) xs (Lib.hid hl) 0 0 0 0 0 k1 (bne_iff_ne.2 hk) (by simpa using hk) (Lib.hid hp) (Lib.hid g) (Lib.hid G) w (Lib.hid SZ)
  · have hM' : okM n i r f a = false := by simpa using hM
    have hp := fun w (SZ : Siz w) => Put_any n i r f a hn hi hr hf ha w SZ
    rw [mark_no hM'] at hp
    have hv := fun w => May_any i r f a hi hr hf ha w
    have hcs : mayM i r f a = false ∨ (mayM i r f a = true ∧ n < 1) ∨ (mayM i r f a = true ∧ 1 ≤ n ∧ 4611686018427387904 < n) := by
      simp only [okM, Bool.and_eq_false_iff, decide_eq_false_iff_not] at hM'
      cases hm : mayM i r f a with
      | false => exact .inl rfl
      | true =>
        rcases hM' with h | h
        · by_cases h2 : n < 1
          · exact .inr (.inl ⟨rfl, h2⟩)
          · exact .inr (.inr ⟨rfl, by omega, by omega⟩)
        · rw [hm] at h; exact absurd h (by decide)
    by_cases hk : k1 = 0
    · have hq2 := hq hk
      subst hk
      rcases hcs with h | ⟨h, h2⟩ | ⟨h, h2, h3⟩
      · exact Back_B01 n i r f a xs (Lib.hid hl) xs (Lib.hid hl) n1 i1 r1 f1 a1 1 rfl rfl _ h (Lib.hid hp) (Lib.hid hv) (Lib.hid G) (Lib.hid hq2) w (Lib.hid SZ)
      · exact Back_B11 n i r f a xs (Lib.hid hl) xs (Lib.hid hl) n1 i1 r1 f1 a1 1 rfl rfl _ h h2 (Lib.hid hp) (Lib.hid hv) (Lib.hid G) (Lib.hid hq2) w (Lib.hid SZ)
      · exact Back_B21 n i r f a xs (Lib.hid hl) xs (Lib.hid hl) n1 i1 r1 f1 a1 1 rfl rfl _ h h2 h3 (Lib.hid hp) (Lib.hid hv) (Lib.hid G) (Lib.hid hq2) w (Lib.hid SZ)
    · obtain ⟨rfl, rfl, rfl, rfl, rfl⟩ := hz hk
      rcases hcs with h | ⟨h, h2⟩ | ⟨h, h2, h3⟩
      · exact Back_B02 n i r f a xs (Lib.hid hl) xs (Lib.hid hl) 0 0 0 0 0 k1 (bne_iff_ne.2 hk) (by simpa using hk) _ h (Lib.hid hp) (Lib.hid hv) (Lib.hid G) w (Lib.hid SZ)
      · exact Back_B12 n i r f a xs (Lib.hid hl) xs (Lib.hid hl) 0 0 0 0 0 k1 (bne_iff_ne.2 hk) (by simpa using hk) _ h h2 (Lib.hid hp) (Lib.hid hv) (Lib.hid G) w (Lib.hid SZ)
      · exact Back_B22 n i r f a xs (Lib.hid hl) xs (Lib.hid hl) 0 0 0 0 0 k1 (bne_iff_ne.2 hk) (by simpa using hk) _ h h2 h3 (Lib.hid hp) (Lib.hid hv) (Lib.hid G) w (Lib.hid SZ)
theorem back_row (n : Int) (wn : (Lit.int .u64 n).wf = true) (i : Int) (wi : (Lit.int .u64 i).wf = true) (r : Int) (wr : (Lit.int .i64 r).wf = true) (f : Int) (wf : (Lit.int .u64 f).wf = true) (a : Int) (wa : (Lit.int .u64 a).wf = true) (l : List Int) (hl : l.length = 64) (hw : ∀ x ∈ l, (Lit.int .u8 x).wf = true) (w : World) (SZ : Siz w) :
    Calls Tryd.prog 5 #[.int .u64 n, .agg #[.int .u64 i, .int .i64 r, .int .u64 f, .int .u64 a], blk l] w fun e w' => e = .returned (.bool true) ∧ Below w.heap.size w w' := by
  obtain ⟨n, rfl, hn⟩ := u64_nat wn
  obtain ⟨i, rfl, hi⟩ := u64_nat wi
  obtain ⟨f, rfl, hf⟩ := u64_nat wf
  obtain ⟨a, rfl, ha⟩ := u64_nat wa
  exact back_any n i r f a hn hi (i64_bounds wr) hf ha l hl hw w SZ
end Go.Proofs.YtdchcggllcgokaaDoor.K
