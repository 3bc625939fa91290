/-
  SuperTorn: sums of numbers as steps. ashlarlaw08.SuperTorn: walks L1, L2. ashlarlaw08.SuperTorn: walks L3, L4. ashlarlaw08.SuperTorn: walks lo.
-/
import Derived.Test.YtdchcggllcgokaaSqU
import Derived.Deep.RegionHeld3
import Derived.Deep.MidRow
namespace Go.Proofs.Ytdchcggllcgokaa.Q
open Go.RowKit Go.Proofs.Ytdchcggllcgokaa.L Go.Proofs.Ytdchcggllcgokaa.U Go.Proofs.Ytdchcggllcgokaa.E Go.Proofs.Ytdchcggllcgokaa.R Go.Proofs.YtdchcggllcgokaaW.PrintWords
set_option linter.unusedVariables false
set_option linter.unusedSimpArgs false
section
variable {ops : Array Oper} {rest : List Oper} {op : Oper} {A : Act} {w : World} {Q : Exit → Act → World → Prop}
theorem maxS (x y : Operand) (ho : op.op = .call { callee := .builtin .max, args := #[x, y], argTypes := #[33, 33] }) (a b M : Nat) (hx : A.eval x = .int .u64 (a : Int)) (hy : A.eval y = .int .u64 (b : Int)) (hM : max a b = M)
    (hw : Region.wanted op (yielded ops A.tmps) = true) (h : wpList Try.prog ops Q rest (A.put op.dst (.int .u64 (M : Int))) w) : wpList Try.prog ops Q (op :: rest) A w := by
  refine valStep ?_ hw h
  subst hM
  have h2 : (if (b : Int) > (a : Int) then (b : Int) else (a : Int)) = ((max a b : Nat) : Int) := by
    split <;> omega
  unfold execOp
  simp only [ho, resolve, invoke, builtin, Sem.run_bind, Sem.run_pure, Sem.run_map, Result.andThen_ok, List.map_toArray, List.map_cons, List.map_nil, hx, hy, run_max_int2, h2]
theorem addS (x y : Operand) (u : TypeId) (ho : op.op = .binOp .add 33 x y u) (a b v : Nat) (hx : A.eval x = .int .u64 (a : Int)) (hy : A.eval y = .int .u64 (b : Int)) (hv : (a + b) % 18446744073709551616 = v)
    (hw : Region.wanted op (yielded ops A.tmps) = true) (h : wpList Try.prog ops Q rest (A.put op.dst (.int .u64 (v : Int))) w) : wpList Try.prog ops Q (op :: rest) A w := by
  refine valStep ?_ hw h
  have h2 : IntKind.u64.wrap ((a : Int) + (b : Int)) = (v : Int) := by
    simp [IntKind.wrap, IntKind.signed, IntKind.bits]
    omega
  unfold execOp
  simp [ho, hx, hy, eqGuard_add, binOp_add, Op.intArith, h2, Sem.run_bind, Sem.run_map, Sem.run_pure, Result.andThen_ok]
end
end Go.Proofs.Ytdchcggllcgokaa.Q

namespace Go.Proofs.Ytdchcggllcgokaa.Q
open Go.RowKit Go.Proofs.Ytdchcggllcgokaa.L Go.Proofs.Ytdchcggllcgokaa.U Go.Proofs.Ytdchcggllcgokaa.E Go.Proofs.Ytdchcggllcgokaa.R Go.Proofs.YtdchcggllcgokaaW.PrintWords
set_option linter.unusedVariables false
set_option linter.unusedSimpArgs false
set_option maxRecDepth 100000 in
set_option maxHeartbeats 4000000 in
theorem sTorn_L1 (n : Nat) (nl : n < 18446744073709551616) (m : Nat) (ml : m < 18446744073709551616) (s t nx : Su) (HS : Hid (s.x.st.length = 16)) (HT : Hid (t.x.st.length = 16)) (HN : Hid (nx.x.st.length = 16)) (z : Nat) (zl : z < 256) (q : Int) (M v1 ev : Nat) (el : ev < 18446744073709551616) (hM : Hid (max n m = M)) (hv1 : Hid ((M + 1) % 18446744073709551616 = v1)) (hev : Hid ((v1 + z) % 18446744073709551616 = ev)) (X Y Z : List Int) (HX : Hid (X.length = 64)) (HY : Hid (Y.length = 64)) (HZ : Hid (Z.length = 64)) (e1 e2 e3 : Int) (he : (e1 != 0) = true)
    (A1 : Hid (∀ w : World, Calls Try.prog 106 #[.int .u64 (n : Int), sup s] w fun e w' => e = .returned (.tuple #[blk X, .int .i64 e1]) ∧ Below w.heap.size w w'))
    (A2 : Hid (∀ w : World, Calls Try.prog 106 #[.int .u64 (m : Int), sup t] w fun e w' => e = .returned (.tuple #[blk Y, .int .i64 e2]) ∧ Below w.heap.size w w'))
    (A3 : Hid (∀ w : World, Calls Try.prog 106 #[.int .u64 (ev : Int), sup nx] w fun e w' => e = .returned (.tuple #[blk Z, .int .i64 e3]) ∧ Below w.heap.size w w')) (w : World) : Calls Try.prog 31 #[.int .u64 (n : Int), .int .u64 (m : Int), sup s, sup t, sup nx, .int .u8 (z : Int), .int .i64 q] w fun e w' => e = .returned (.bool true) ∧ Below w.heap.size w w' := by
  have HB := Lib.hid (Below.refl w.heap.size w)
  have tok0 : True := trivial
  have tp0 : True := trivial
  go_enter Try.func31, Try.ntmps31
  go_wp2_with (first
    | (go_skip)
    | (refine supBox (.tmp 2) rfl rfl HS.out rfl ?_; intro w1 hk hb1 hz1; replace HB := Lib.hid (below_ext HB.out hb1); have K9 := Lib.hid hk; clear hk hb1)
    | (refine supBox (.tmp 3) rfl rfl HT.out rfl ?_; intro w2 hk hb2 hz2; replace K9 := Lib.hid (K9.out.below hb2); replace HB := Lib.hid (below_ext HB.out hb2); have K10 := Lib.hid hk; clear hk hb2)
    | (refine supBox (.tmp 4) rfl rfl HN.out rfl ?_; intro w3 hk hb3 hz3; replace K9 := Lib.hid (K9.out.below hb3); replace K10 := Lib.hid (K10.out.below hb3); replace HB := Lib.hid (below_ext HB.out hb3); have K11 := Lib.hid hk; clear hk hb3)
    | (refine supLoad (.tmp 9) rfl K9.out rfl rfl ?_)
    | (have _t := tp0; go_at_call 106; refine (A1.out _).mono ?_; rintro e w4 ⟨rfl, hb4⟩; replace K9 := Lib.hid (K9.out.below hb4); replace K10 := Lib.hid (K10.out.below hb4); replace K11 := Lib.hid (K11.out.below hb4); replace HB := Lib.hid (below_ext HB.out hb4); have hz4 := hb4.size; clear hb4; have tp1 : True := trivial; clear _t tp0)
    | (have _t := tok0; refine F.blkAlloc rfl rfl ?_; intro w5 hk hb5 hz5; replace K9 := Lib.hid (K9.out.below hb5); replace K10 := Lib.hid (K10.out.below hb5); replace K11 := Lib.hid (K11.out.below hb5); replace HB := Lib.hid (below_ext HB.out hb5); have K15 := Lib.hid hk; have tok1 : True := trivial; clear hk hb5 _t tok0)
    | (refine F.blkStore (.tmp 15) (.tmp 30) rfl K15.out rfl rfl HX.out rfl ?_; intro w6 hk hg; replace HB := Lib.hid (below_at HB.out hg (by omega) K15.out.lt); replace K9 := Lib.hid (K9.out.grown hg (by omega)); replace K10 := Lib.hid (K10.out.grown hg (by omega)); replace K11 := Lib.hid (K11.out.grown hg (by omega)); replace K15 := Lib.hid hk; have hz6 := hg.size; clear hk hg)
    | (refine supLoad (.tmp 10) rfl K10.out rfl rfl ?_)
    | (have _t := tp1; go_at_call 106; refine (A2.out _).mono ?_; rintro e w7 ⟨rfl, hb7⟩; replace K9 := Lib.hid (K9.out.below hb7); replace K10 := Lib.hid (K10.out.below hb7); replace K11 := Lib.hid (K11.out.below hb7); replace K15 := Lib.hid (K15.out.below hb7); replace HB := Lib.hid (below_ext HB.out hb7); have hz7 := hb7.size; clear hb7; have tp2 : True := trivial; clear _t tp1)
    | (have _t := tok1; refine F.blkAlloc rfl rfl ?_; intro w8 hk hb8 hz8; replace K9 := Lib.hid (K9.out.below hb8); replace K10 := Lib.hid (K10.out.below hb8); replace K11 := Lib.hid (K11.out.below hb8); replace K15 := Lib.hid (K15.out.below hb8); replace HB := Lib.hid (below_ext HB.out hb8); have K17 := Lib.hid hk; have tok2 : True := trivial; clear hk hb8 _t tok1)
    | (refine F.blkStore (.tmp 17) (.tmp 36) rfl K17.out rfl rfl HY.out rfl ?_; intro w9 hk hg; replace HB := Lib.hid (below_at HB.out hg (by omega) K17.out.lt); replace K9 := Lib.hid (K9.out.grown hg (by omega)); replace K10 := Lib.hid (K10.out.grown hg (by omega)); replace K11 := Lib.hid (K11.out.grown hg (by omega)); replace K15 := Lib.hid (K15.out.grown hg (by omega)); replace K17 := Lib.hid hk; have hz9 := hg.size; clear hk hg)
    | (refine supLoad (.tmp 11) rfl K11.out rfl rfl ?_)
    | (refine maxS (.tmp 38) (.tmp 39) rfl n m M rfl rfl hM.out rfl ?_)
    | (refine addS (.tmp 40) (.const (.int .u64 1)) _ rfl M 1 v1 rfl rfl hv1.out rfl ?_)
    | (refine addS (.tmp 41) (.tmp 43) _ rfl v1 z ev rfl rfl hev.out rfl ?_)
    | (have _t := tp2; go_at_call 106; refine (A3.out _).mono ?_; rintro e w10 ⟨rfl, hb10⟩; replace K9 := Lib.hid (K9.out.below hb10); replace K10 := Lib.hid (K10.out.below hb10); replace K11 := Lib.hid (K11.out.below hb10); replace K15 := Lib.hid (K15.out.below hb10); replace K17 := Lib.hid (K17.out.below hb10); replace HB := Lib.hid (below_ext HB.out hb10); have hz10 := hb10.size; clear hb10; have tp3 : True := trivial; clear _t tp2)
    | (have _t := tok2; refine F.blkAlloc rfl rfl ?_; intro w11 hk hb11 hz11; replace K9 := Lib.hid (K9.out.below hb11); replace K10 := Lib.hid (K10.out.below hb11); replace K11 := Lib.hid (K11.out.below hb11); replace K15 := Lib.hid (K15.out.below hb11); replace K17 := Lib.hid (K17.out.below hb11); replace HB := Lib.hid (below_ext HB.out hb11); have K20 := Lib.hid hk; have tok3 : True := trivial; clear hk hb11 _t tok2)
    | (refine F.blkStore (.tmp 20) (.tmp 49) rfl K20.out rfl rfl HZ.out rfl ?_; intro w12 hk hg; replace HB := Lib.hid (below_at HB.out hg (by omega) K20.out.lt); replace K9 := Lib.hid (K9.out.grown hg (by omega)); replace K10 := Lib.hid (K10.out.grown hg (by omega)); replace K11 := Lib.hid (K11.out.grown hg (by omega)); replace K15 := Lib.hid (K15.out.grown hg (by omega)); replace K17 := Lib.hid (K17.out.grown hg (by omega)); replace K20 := Lib.hid hk; have hz12 := hg.size; clear hk hg)
    | (have _t := tp3; go_at_call 105; refine (sLives_any _).mono ?_; rintro e w13 ⟨rfl, hb13⟩; replace K9 := Lib.hid (K9.out.below hb13); replace K10 := Lib.hid (K10.out.below hb13); replace K11 := Lib.hid (K11.out.below hb13); replace K15 := Lib.hid (K15.out.below hb13); replace K17 := Lib.hid (K17.out.below hb13); replace K20 := Lib.hid (K20.out.below hb13); replace HB := Lib.hid (below_ext HB.out hb13); have hz13 := hb13.size; clear hb13; have tp4 : True := trivial; clear _t tp3))
  go_ret
  exact ⟨rfl, HB.out⟩
set_option maxRecDepth 100000 in
set_option maxHeartbeats 4000000 in
theorem sTorn_L2 (n : Nat) (nl : n < 18446744073709551616) (m : Nat) (ml : m < 18446744073709551616) (s t nx : Su) (HS : Hid (s.x.st.length = 16)) (HT : Hid (t.x.st.length = 16)) (HN : Hid (nx.x.st.length = 16)) (z : Nat) (zl : z < 256) (q : Int) (M v1 ev : Nat) (el : ev < 18446744073709551616) (hM : Hid (max n m = M)) (hv1 : Hid ((M + 1) % 18446744073709551616 = v1)) (hev : Hid ((v1 + z) % 18446744073709551616 = ev)) (X Y Z : List Int) (HX : Hid (X.length = 64)) (HY : Hid (Y.length = 64)) (HZ : Hid (Z.length = 64)) (e2 e3 : Int) (he : (e2 != 0) = true)
    (A1 : Hid (∀ w : World, Calls Try.prog 106 #[.int .u64 (n : Int), sup s] w fun e w' => e = .returned (.tuple #[blk X, .int .i64 0]) ∧ Below w.heap.size w w'))
    (A2 : Hid (∀ w : World, Calls Try.prog 106 #[.int .u64 (m : Int), sup t] w fun e w' => e = .returned (.tuple #[blk Y, .int .i64 e2]) ∧ Below w.heap.size w w'))
    (A3 : Hid (∀ w : World, Calls Try.prog 106 #[.int .u64 (ev : Int), sup nx] w fun e w' => e = .returned (.tuple #[blk Z, .int .i64 e3]) ∧ Below w.heap.size w w')) (w : World) : Calls Try.prog 31 #[.int .u64 (n : Int), .int .u64 (m : Int), sup s, sup t, sup nx, .int .u8 (z : Int), .int .i64 q] w fun e w' => e = .returned (.bool true) ∧ Below w.heap.size w w' := by
  have HB := Lib.hid (Below.refl w.heap.size w)
  have tok0 : True := trivial
  have tp0 : True := trivial
  go_enter Try.func31, Try.ntmps31
  go_wp2_with (first
    | (go_skip)
    | (refine supBox (.tmp 2) rfl rfl HS.out rfl ?_; intro w1 hk hb1 hz1; replace HB := Lib.hid (below_ext HB.out hb1); have K9 := Lib.hid hk; clear hk hb1)
    | (refine supBox (.tmp 3) rfl rfl HT.out rfl ?_; intro w2 hk hb2 hz2; replace K9 := Lib.hid (K9.out.below hb2); replace HB := Lib.hid (below_ext HB.out hb2); have K10 := Lib.hid hk; clear hk hb2)
    | (refine supBox (.tmp 4) rfl rfl HN.out rfl ?_; intro w3 hk hb3 hz3; replace K9 := Lib.hid (K9.out.below hb3); replace K10 := Lib.hid (K10.out.below hb3); replace HB := Lib.hid (below_ext HB.out hb3); have K11 := Lib.hid hk; clear hk hb3)
    | (refine supLoad (.tmp 9) rfl K9.out rfl rfl ?_)
    | (have _t := tp0; go_at_call 106; refine (A1.out _).mono ?_; rintro e w4 ⟨rfl, hb4⟩; replace K9 := Lib.hid (K9.out.below hb4); replace K10 := Lib.hid (K10.out.below hb4); replace K11 := Lib.hid (K11.out.below hb4); replace HB := Lib.hid (below_ext HB.out hb4); have hz4 := hb4.size; clear hb4; have tp1 : True := trivial; clear _t tp0)
    | (have _t := tok0; refine F.blkAlloc rfl rfl ?_; intro w5 hk hb5 hz5; replace K9 := Lib.hid (K9.out.below hb5); replace K10 := Lib.hid (K10.out.below hb5); replace K11 := Lib.hid (K11.out.below hb5); replace HB := Lib.hid (below_ext HB.out hb5); have K15 := Lib.hid hk; have tok1 : True := trivial; clear hk hb5 _t tok0)
    | (refine F.blkStore (.tmp 15) (.tmp 30) rfl K15.out rfl rfl HX.out rfl ?_; intro w6 hk hg; replace HB := Lib.hid (below_at HB.out hg (by omega) K15.out.lt); replace K9 := Lib.hid (K9.out.grown hg (by omega)); replace K10 := Lib.hid (K10.out.grown hg (by omega)); replace K11 := Lib.hid (K11.out.grown hg (by omega)); replace K15 := Lib.hid hk; have hz6 := hg.size; clear hk hg)
    | (refine supLoad (.tmp 10) rfl K10.out rfl rfl ?_)
    | (have _t := tp1; go_at_call 106; refine (A2.out _).mono ?_; rintro e w7 ⟨rfl, hb7⟩; replace K9 := Lib.hid (K9.out.below hb7); replace K10 := Lib.hid (K10.out.below hb7); replace K11 := Lib.hid (K11.out.below hb7); replace K15 := Lib.hid (K15.out.below hb7); replace HB := Lib.hid (below_ext HB.out hb7); have hz7 := hb7.size; clear hb7; have tp2 : True := trivial; clear _t tp1)
    | (have _t := tok1; refine F.blkAlloc rfl rfl ?_; intro w8 hk hb8 hz8; replace K9 := Lib.hid (K9.out.below hb8); replace K10 := Lib.hid (K10.out.below hb8); replace K11 := Lib.hid (K11.out.below hb8); replace K15 := Lib.hid (K15.out.below hb8); replace HB := Lib.hid (below_ext HB.out hb8); have K17 := Lib.hid hk; have tok2 : True := trivial; clear hk hb8 _t tok1)
    | (refine F.blkStore (.tmp 17) (.tmp 36) rfl K17.out rfl rfl HY.out rfl ?_; intro w9 hk hg; replace HB := Lib.hid (below_at HB.out hg (by omega) K17.out.lt); replace K9 := Lib.hid (K9.out.grown hg (by omega)); replace K10 := Lib.hid (K10.out.grown hg (by omega)); replace K11 := Lib.hid (K11.out.grown hg (by omega)); replace K15 := Lib.hid (K15.out.grown hg (by omega)); replace K17 := Lib.hid hk; have hz9 := hg.size; clear hk hg)
    | (refine supLoad (.tmp 11) rfl K11.out rfl rfl ?_)
    | (refine maxS (.tmp 38) (.tmp 39) rfl n m M rfl rfl hM.out rfl ?_)
    | (refine addS (.tmp 40) (.const (.int .u64 1)) _ rfl M 1 v1 rfl rfl hv1.out rfl ?_)
    | (refine addS (.tmp 41) (.tmp 43) _ rfl v1 z ev rfl rfl hev.out rfl ?_)
    | (have _t := tp2; go_at_call 106; refine (A3.out _).mono ?_; rintro e w10 ⟨rfl, hb10⟩; replace K9 := Lib.hid (K9.out.below hb10); replace K10 := Lib.hid (K10.out.below hb10); replace K11 := Lib.hid (K11.out.below hb10); replace K15 := Lib.hid (K15.out.below hb10); replace K17 := Lib.hid (K17.out.below hb10); replace HB := Lib.hid (below_ext HB.out hb10); have hz10 := hb10.size; clear hb10; have tp3 : True := trivial; clear _t tp2)
    | (have _t := tok2; refine F.blkAlloc rfl rfl ?_; intro w11 hk hb11 hz11; replace K9 := Lib.hid (K9.out.below hb11); replace K10 := Lib.hid (K10.out.below hb11); replace K11 := Lib.hid (K11.out.below hb11); replace K15 := Lib.hid (K15.out.below hb11); replace K17 := Lib.hid (K17.out.below hb11); replace HB := Lib.hid (below_ext HB.out hb11); have K20 := Lib.hid hk; have tok3 : True := trivial; clear hk hb11 _t tok2)
    | (refine F.blkStore (.tmp 20) (.tmp 49) rfl K20.out rfl rfl HZ.out rfl ?_; intro w12 hk hg; replace HB := Lib.hid (below_at HB.out hg (by omega) K20.out.lt); replace K9 := Lib.hid (K9.out.grown hg (by omega)); replace K10 := Lib.hid (K10.out.grown hg (by omega)); replace K11 := Lib.hid (K11.out.grown hg (by omega)); replace K15 := Lib.hid (K15.out.grown hg (by omega)); replace K17 := Lib.hid (K17.out.grown hg (by omega)); replace K20 := Lib.hid hk; have hz12 := hg.size; clear hk hg)
    | (have _t := tp3; go_at_call 105; refine (sLives_any _).mono ?_; rintro e w13 ⟨rfl, hb13⟩; replace K9 := Lib.hid (K9.out.below hb13); replace K10 := Lib.hid (K10.out.below hb13); replace K11 := Lib.hid (K11.out.below hb13); replace K15 := Lib.hid (K15.out.below hb13); replace K17 := Lib.hid (K17.out.below hb13); replace K20 := Lib.hid (K20.out.below hb13); replace HB := Lib.hid (below_ext HB.out hb13); have hz13 := hb13.size; clear hb13; have tp4 : True := trivial; clear _t tp3))
  go_ret
  exact ⟨rfl, HB.out⟩
end Go.Proofs.Ytdchcggllcgokaa.Q

namespace Go.Proofs.Ytdchcggllcgokaa.Q
open Go.RowKit Go.Proofs.Ytdchcggllcgokaa.L Go.Proofs.Ytdchcggllcgokaa.U Go.Proofs.Ytdchcggllcgokaa.E Go.Proofs.Ytdchcggllcgokaa.R Go.Proofs.YtdchcggllcgokaaW.PrintWords
set_option linter.unusedVariables false
set_option linter.unusedSimpArgs false
set_option maxRecDepth 100000 in
set_option maxHeartbeats 4000000 in
theorem sTorn_L3 (n : Nat) (nl : n < 18446744073709551616) (m : Nat) (ml : m < 18446744073709551616) (s t nx : Su) (HS : Hid (s.x.st.length = 16)) (HT : Hid (t.x.st.length = 16)) (HN : Hid (nx.x.st.length = 16)) (z : Nat) (zl : z < 256) (q : Int) (M v1 ev : Nat) (el : ev < 18446744073709551616) (hM : Hid (max n m = M)) (hv1 : Hid ((M + 1) % 18446744073709551616 = v1)) (hev : Hid ((v1 + z) % 18446744073709551616 = ev)) (X Y Z : List Int) (HX : Hid (X.length = 64)) (HY : Hid (Y.length = 64)) (HZ : Hid (Z.length = 64)) (e3 : Int) (he : (e3 != 0) = true)
    (A1 : Hid (∀ w : World, Calls Try.prog 106 #[.int .u64 (n : Int), sup s] w fun e w' => e = .returned (.tuple #[blk X, .int .i64 0]) ∧ Below w.heap.size w w'))
    (A2 : Hid (∀ w : World, Calls Try.prog 106 #[.int .u64 (m : Int), sup t] w fun e w' => e = .returned (.tuple #[blk Y, .int .i64 0]) ∧ Below w.heap.size w w'))
    (A3 : Hid (∀ w : World, Calls Try.prog 106 #[.int .u64 (ev : Int), sup nx] w fun e w' => e = .returned (.tuple #[blk Z, .int .i64 e3]) ∧ Below w.heap.size w w')) (w : World) : Calls Try.prog 31 #[.int .u64 (n : Int), .int .u64 (m : Int), sup s, sup t, sup nx, .int .u8 (z : Int), .int .i64 q] w fun e w' => e = .returned (.bool true) ∧ Below w.heap.size w w' := by
  have HB := Lib.hid (Below.refl w.heap.size w)
  have tok0 : True := trivial
  have tp0 : True := trivial
  go_enter Try.func31, Try.ntmps31
  go_wp2_with (first
    | (go_skip)
    | (refine supBox (.tmp 2) rfl rfl HS.out rfl ?_; intro w1 hk hb1 hz1; replace HB := Lib.hid (below_ext HB.out hb1); have K9 := Lib.hid hk; clear hk hb1)
    | (refine supBox (.tmp 3) rfl rfl HT.out rfl ?_; intro w2 hk hb2 hz2; replace K9 := Lib.hid (K9.out.below hb2); replace HB := Lib.hid (below_ext HB.out hb2); have K10 := Lib.hid hk; clear hk hb2)
    | (refine supBox (.tmp 4) rfl rfl HN.out rfl ?_; intro w3 hk hb3 hz3; replace K9 := Lib.hid (K9.out.below hb3); replace K10 := Lib.hid (K10.out.below hb3); replace HB := Lib.hid (below_ext HB.out hb3); have K11 := Lib.hid hk; clear hk hb3)
    | (refine supLoad (.tmp 9) rfl K9.out rfl rfl ?_)
    | (have _t := tp0; go_at_call 106; refine (A1.out _).mono ?_; rintro e w4 ⟨rfl, hb4⟩; replace K9 := Lib.hid (K9.out.below hb4); replace K10 := Lib.hid (K10.out.below hb4); replace K11 := Lib.hid (K11.out.below hb4); replace HB := Lib.hid (below_ext HB.out hb4); have hz4 := hb4.size; clear hb4; have tp1 : True := trivial; clear _t tp0)
    | (have _t := tok0; refine F.blkAlloc rfl rfl ?_; intro w5 hk hb5 hz5; replace K9 := Lib.hid (K9.out.below hb5); replace K10 := Lib.hid (K10.out.below hb5); replace K11 := Lib.hid (K11.out.below hb5); replace HB := Lib.hid (below_ext HB.out hb5); have K15 := Lib.hid hk; have tok1 : True := trivial; clear hk hb5 _t tok0)
    | (refine F.blkStore (.tmp 15) (.tmp 30) rfl K15.out rfl rfl HX.out rfl ?_; intro w6 hk hg; replace HB := Lib.hid (below_at HB.out hg (by omega) K15.out.lt); replace K9 := Lib.hid (K9.out.grown hg (by omega)); replace K10 := Lib.hid (K10.out.grown hg (by omega)); replace K11 := Lib.hid (K11.out.grown hg (by omega)); replace K15 := Lib.hid hk; have hz6 := hg.size; clear hk hg)
    | (refine supLoad (.tmp 10) rfl K10.out rfl rfl ?_)
    | (have _t := tp1; go_at_call 106; refine (A2.out _).mono ?_; rintro e w7 ⟨rfl, hb7⟩; replace K9 := Lib.hid (K9.out.below hb7); replace K10 := Lib.hid (K10.out.below hb7); replace K11 := Lib.hid (K11.out.below hb7); replace K15 := Lib.hid (K15.out.below hb7); replace HB := Lib.hid (below_ext HB.out hb7); have hz7 := hb7.size; clear hb7; have tp2 : True := trivial; clear _t tp1)
    | (have _t := tok1; refine F.blkAlloc rfl rfl ?_; intro w8 hk hb8 hz8; replace K9 := Lib.hid (K9.out.below hb8); replace K10 := Lib.hid (K10.out.below hb8); replace K11 := Lib.hid (K11.out.below hb8); replace K15 := Lib.hid (K15.out.below hb8); replace HB := Lib.hid (below_ext HB.out hb8); have K17 := Lib.hid hk; have tok2 : True := trivial; clear hk hb8 _t tok1)
    | (refine F.blkStore (.tmp 17) (.tmp 36) rfl K17.out rfl rfl HY.out rfl ?_; intro w9 hk hg; replace HB := Lib.hid (below_at HB.out hg (by omega) K17.out.lt); replace K9 := Lib.hid (K9.out.grown hg (by omega)); replace K10 := Lib.hid (K10.out.grown hg (by omega)); replace K11 := Lib.hid (K11.out.grown hg (by omega)); replace K15 := Lib.hid (K15.out.grown hg (by omega)); replace K17 := Lib.hid hk; have hz9 := hg.size; clear hk hg)
    | (refine supLoad (.tmp 11) rfl K11.out rfl rfl ?_)
    | (refine maxS (.tmp 38) (.tmp 39) rfl n m M rfl rfl hM.out rfl ?_)
    | (refine addS (.tmp 40) (.const (.int .u64 1)) _ rfl M 1 v1 rfl rfl hv1.out rfl ?_)
    | (refine addS (.tmp 41) (.tmp 43) _ rfl v1 z ev rfl rfl hev.out rfl ?_)
    | (have _t := tp2; go_at_call 106; refine (A3.out _).mono ?_; rintro e w10 ⟨rfl, hb10⟩; replace K9 := Lib.hid (K9.out.below hb10); replace K10 := Lib.hid (K10.out.below hb10); replace K11 := Lib.hid (K11.out.below hb10); replace K15 := Lib.hid (K15.out.below hb10); replace K17 := Lib.hid (K17.out.below hb10); replace HB := Lib.hid (below_ext HB.out hb10); have hz10 := hb10.size; clear hb10; have tp3 : True := trivial; clear _t tp2)
    | (have _t := tok2; refine F.blkAlloc rfl rfl ?_; intro w11 hk hb11 hz11; replace K9 := Lib.hid (K9.out.below hb11); replace K10 := Lib.hid (K10.out.below hb11); replace K11 := Lib.hid (K11.out.below hb11); replace K15 := Lib.hid (K15.out.below hb11); replace K17 := Lib.hid (K17.out.below hb11); replace HB := Lib.hid (below_ext HB.out hb11); have K20 := Lib.hid hk; have tok3 : True := trivial; clear hk hb11 _t tok2)
    | (refine F.blkStore (.tmp 20) (.tmp 49) rfl K20.out rfl rfl HZ.out rfl ?_; intro w12 hk hg; replace HB := Lib.hid (below_at HB.out hg (by omega) K20.out.lt); replace K9 := Lib.hid (K9.out.grown hg (by omega)); replace K10 := Lib.hid (K10.out.grown hg (by omega)); replace K11 := Lib.hid (K11.out.grown hg (by omega)); replace K15 := Lib.hid (K15.out.grown hg (by omega)); replace K17 := Lib.hid (K17.out.grown hg (by omega)); replace K20 := Lib.hid hk; have hz12 := hg.size; clear hk hg)
    | (have _t := tp3; go_at_call 105; refine (sLives_any _).mono ?_; rintro e w13 ⟨rfl, hb13⟩; replace K9 := Lib.hid (K9.out.below hb13); replace K10 := Lib.hid (K10.out.below hb13); replace K11 := Lib.hid (K11.out.below hb13); replace K15 := Lib.hid (K15.out.below hb13); replace K17 := Lib.hid (K17.out.below hb13); replace K20 := Lib.hid (K20.out.below hb13); replace HB := Lib.hid (below_ext HB.out hb13); have hz13 := hb13.size; clear hb13; have tp4 : True := trivial; clear _t tp3))
  go_ret
  exact ⟨rfl, HB.out⟩
set_option maxRecDepth 100000 in
set_option maxHeartbeats 4000000 in
theorem sTorn_L4 (n : Nat) (nl : n < 18446744073709551616) (s t nx : Su) (HS : Hid (s.x.st.length = 16)) (HT : Hid (t.x.st.length = 16)) (HN : Hid (nx.x.st.length = 16)) (z : Nat) (zl : z < 256) (q : Int) (M v1 ev : Nat) (el : ev < 18446744073709551616) (hM : Hid (max n n = M)) (hv1 : Hid ((M + 1) % 18446744073709551616 = v1)) (hev : Hid ((v1 + z) % 18446744073709551616 = ev)) (X Y Z : List Int) (HX : Hid (X.length = 64)) (HY : Hid (Y.length = 64)) (HZ : Hid (Z.length = 64)) 
    (A1 : Hid (∀ w : World, Calls Try.prog 106 #[.int .u64 (n : Int), sup s] w fun e w' => e = .returned (.tuple #[blk X, .int .i64 0]) ∧ Below w.heap.size w w'))
    (A2 : Hid (∀ w : World, Calls Try.prog 106 #[.int .u64 (n : Int), sup t] w fun e w' => e = .returned (.tuple #[blk Y, .int .i64 0]) ∧ Below w.heap.size w w'))
    (A3 : Hid (∀ w : World, Calls Try.prog 106 #[.int .u64 (ev : Int), sup nx] w fun e w' => e = .returned (.tuple #[blk Z, .int .i64 0]) ∧ Below w.heap.size w w')) (w : World) : Calls Try.prog 31 #[.int .u64 (n : Int), .int .u64 (n : Int), sup s, sup t, sup nx, .int .u8 (z : Int), .int .i64 q] w fun e w' => e = .returned (.bool true) ∧ Below w.heap.size w w' := by
  have HB := Lib.hid (Below.refl w.heap.size w)
  have tok0 : True := trivial
  have tp0 : True := trivial
  go_enter Try.func31, Try.ntmps31
  go_wp2_with (first
    | (go_skip)
    | (refine supBox (.tmp 2) rfl rfl HS.out rfl ?_; intro w1 hk hb1 hz1; replace HB := Lib.hid (below_ext HB.out hb1); have K9 := Lib.hid hk; clear hk hb1)
    | (refine supBox (.tmp 3) rfl rfl HT.out rfl ?_; intro w2 hk hb2 hz2; replace K9 := Lib.hid (K9.out.below hb2); replace HB := Lib.hid (below_ext HB.out hb2); have K10 := Lib.hid hk; clear hk hb2)
    | (refine supBox (.tmp 4) rfl rfl HN.out rfl ?_; intro w3 hk hb3 hz3; replace K9 := Lib.hid (K9.out.below hb3); replace K10 := Lib.hid (K10.out.below hb3); replace HB := Lib.hid (below_ext HB.out hb3); have K11 := Lib.hid hk; clear hk hb3)
    | (refine supLoad (.tmp 9) rfl K9.out rfl rfl ?_)
    | (have _t := tp0; go_at_call 106; refine (A1.out _).mono ?_; rintro e w4 ⟨rfl, hb4⟩; replace K9 := Lib.hid (K9.out.below hb4); replace K10 := Lib.hid (K10.out.below hb4); replace K11 := Lib.hid (K11.out.below hb4); replace HB := Lib.hid (below_ext HB.out hb4); have hz4 := hb4.size; clear hb4; have tp1 : True := trivial; clear _t tp0)
    | (have _t := tok0; refine F.blkAlloc rfl rfl ?_; intro w5 hk hb5 hz5; replace K9 := Lib.hid (K9.out.below hb5); replace K10 := Lib.hid (K10.out.below hb5); replace K11 := Lib.hid (K11.out.below hb5); replace HB := Lib.hid (below_ext HB.out hb5); have K15 := Lib.hid hk; have tok1 : True := trivial; clear hk hb5 _t tok0)
    | (refine F.blkStore (.tmp 15) (.tmp 30) rfl K15.out rfl rfl HX.out rfl ?_; intro w6 hk hg; replace HB := Lib.hid (below_at HB.out hg (by omega) K15.out.lt); replace K9 := Lib.hid (K9.out.grown hg (by omega)); replace K10 := Lib.hid (K10.out.grown hg (by omega)); replace K11 := Lib.hid (K11.out.grown hg (by omega)); replace K15 := Lib.hid hk; have hz6 := hg.size; clear hk hg)
    | (refine supLoad (.tmp 10) rfl K10.out rfl rfl ?_)
    | (have _t := tp1; go_at_call 106; refine (A2.out _).mono ?_; rintro e w7 ⟨rfl, hb7⟩; replace K9 := Lib.hid (K9.out.below hb7); replace K10 := Lib.hid (K10.out.below hb7); replace K11 := Lib.hid (K11.out.below hb7); replace K15 := Lib.hid (K15.out.below hb7); replace HB := Lib.hid (below_ext HB.out hb7); have hz7 := hb7.size; clear hb7; have tp2 : True := trivial; clear _t tp1)
    | (have _t := tok1; refine F.blkAlloc rfl rfl ?_; intro w8 hk hb8 hz8; replace K9 := Lib.hid (K9.out.below hb8); replace K10 := Lib.hid (K10.out.below hb8); replace K11 := Lib.hid (K11.out.below hb8); replace K15 := Lib.hid (K15.out.below hb8); replace HB := Lib.hid (below_ext HB.out hb8); have K17 := Lib.hid hk; have tok2 : True := trivial; clear hk hb8 _t tok1)
    | (refine F.blkStore (.tmp 17) (.tmp 36) rfl K17.out rfl rfl HY.out rfl ?_; intro w9 hk hg; replace HB := Lib.hid (below_at HB.out hg (by omega) K17.out.lt); replace K9 := Lib.hid (K9.out.grown hg (by omega)); replace K10 := Lib.hid (K10.out.grown hg (by omega)); replace K11 := Lib.hid (K11.out.grown hg (by omega)); replace K15 := Lib.hid (K15.out.grown hg (by omega)); replace K17 := Lib.hid hk; have hz9 := hg.size; clear hk hg)
    | (refine supLoad (.tmp 11) rfl K11.out rfl rfl ?_)
    | (refine maxS (.tmp 38) (.tmp 39) rfl n n M rfl rfl hM.out rfl ?_)
    | (refine addS (.tmp 40) (.const (.int .u64 1)) _ rfl M 1 v1 rfl rfl hv1.out rfl ?_)
    | (refine addS (.tmp 41) (.tmp 43) _ rfl v1 z ev rfl rfl hev.out rfl ?_)
    | (have _t := tp2; go_at_call 106; refine (A3.out _).mono ?_; rintro e w10 ⟨rfl, hb10⟩; replace K9 := Lib.hid (K9.out.below hb10); replace K10 := Lib.hid (K10.out.below hb10); replace K11 := Lib.hid (K11.out.below hb10); replace K15 := Lib.hid (K15.out.below hb10); replace K17 := Lib.hid (K17.out.below hb10); replace HB := Lib.hid (below_ext HB.out hb10); have hz10 := hb10.size; clear hb10; have tp3 : True := trivial; clear _t tp2)
    | (have _t := tok2; refine F.blkAlloc rfl rfl ?_; intro w11 hk hb11 hz11; replace K9 := Lib.hid (K9.out.below hb11); replace K10 := Lib.hid (K10.out.below hb11); replace K11 := Lib.hid (K11.out.below hb11); replace K15 := Lib.hid (K15.out.below hb11); replace K17 := Lib.hid (K17.out.below hb11); replace HB := Lib.hid (below_ext HB.out hb11); have K20 := Lib.hid hk; have tok3 : True := trivial; clear hk hb11 _t tok2)
    | (refine F.blkStore (.tmp 20) (.tmp 49) rfl K20.out rfl rfl HZ.out rfl ?_; intro w12 hk hg; replace HB := Lib.hid (below_at HB.out hg (by omega) K20.out.lt); replace K9 := Lib.hid (K9.out.grown hg (by omega)); replace K10 := Lib.hid (K10.out.grown hg (by omega)); replace K11 := Lib.hid (K11.out.grown hg (by omega)); replace K15 := Lib.hid (K15.out.grown hg (by omega)); replace K17 := Lib.hid (K17.out.grown hg (by omega)); replace K20 := Lib.hid hk; have hz12 := hg.size; clear hk hg)
    | (have _t := tp3; go_at_call 105; refine (sLives_any _).mono ?_; rintro e w13 ⟨rfl, hb13⟩; replace K9 := Lib.hid (K9.out.below hb13); replace K10 := Lib.hid (K10.out.below hb13); replace K11 := Lib.hid (K11.out.below hb13); replace K15 := Lib.hid (K15.out.below hb13); replace K17 := Lib.hid (K17.out.below hb13); replace K20 := Lib.hid (K20.out.below hb13); replace HB := Lib.hid (below_ext HB.out hb13); have hz13 := hb13.size; clear hb13; have tp4 : True := trivial; clear _t tp3))
  go_ret
  exact ⟨rfl, HB.out⟩
end Go.Proofs.Ytdchcggllcgokaa.Q

namespace Go.Proofs.Ytdchcggllcgokaa.Q
open Go.RowKit Go.Proofs.Ytdchcggllcgokaa.L Go.Proofs.Ytdchcggllcgokaa.U Go.Proofs.Ytdchcggllcgokaa.E Go.Proofs.Ytdchcggllcgokaa.R Go.Proofs.YtdchcggllcgokaaW.PrintWords
set_option linter.unusedVariables false
set_option linter.unusedSimpArgs false
set_option maxRecDepth 100000 in
set_option maxHeartbeats 4000000 in
theorem sTorn_lo (n : Nat) (nl : n < 18446744073709551616) (m : Nat) (ml : m < 18446744073709551616) (s t nx : Su) (HS : Hid (s.x.st.length = 16)) (HT : Hid (t.x.st.length = 16)) (HN : Hid (nx.x.st.length = 16)) (z : Nat) (zl : z < 256) (q : Int) (M v1 ev : Nat) (el : ev < 18446744073709551616) (hM : Hid (max n m = M)) (hv1 : Hid ((M + 1) % 18446744073709551616 = v1)) (hev : Hid ((v1 + z) % 18446744073709551616 = ev)) (X Y Z : List Int) (HX : Hid (X.length = 64)) (HY : Hid (Y.length = 64)) (HZ : Hid (Z.length = 64)) (T : List Int) (HTl : Hid (T.length = 64)) (hlt : n < m) (h64 : q < 64) (hne : m ≠ ev)
    (A1 : Hid (∀ w : World, Calls Try.prog 106 #[.int .u64 (n : Int), sup s] w fun e w' => e = .returned (.tuple #[blk X, .int .i64 0]) ∧ Below w.heap.size w w'))
    (A2 : Hid (∀ w : World, Calls Try.prog 106 #[.int .u64 (m : Int), sup t] w fun e w' => e = .returned (.tuple #[blk Y, .int .i64 0]) ∧ Below w.heap.size w w'))
    (A3 : Hid (∀ w : World, Calls Try.prog 106 #[.int .u64 (ev : Int), sup nx] w fun e w' => e = .returned (.tuple #[blk Z, .int .i64 0]) ∧ Below w.heap.size w w'))
    (S1 : Hid (∀ w : World, Calls Try.prog 114 #[blk X, blk Y] w fun e w' => e = .returned (.int .i64 0) ∧ Below w.heap.size w w'))
    (T1 : Hid (∀ w : World, Calls Try.prog 63 #[blk X, blk Z, .int .i64 q] w fun e w' => e = .returned (blk T) ∧ Below w.heap.size w w'))
    (P3 : Hid (∀ w : World, Calls Try.prog 112 #[blk T, blk Y] w fun e w' => e = .returned (.tuple #[.int .u64 (m : Int), sup t, .int .i64 0]) ∧ Below w.heap.size w w')) (w : World) : Calls Try.prog 31 #[.int .u64 (n : Int), .int .u64 (m : Int), sup s, sup t, sup nx, .int .u8 (z : Int), .int .i64 q] w fun e w' => e = .returned (.bool true) ∧ Below w.heap.size w w' := by
  have HB := Lib.hid (Below.refl w.heap.size w)
  have f1 : (n == m) = false := by simp; omega
  have f2 : ((n : Int) == (m : Int)) = false := by simp; omega
  have g1 : decide (n < m) = true := by simp; omega
  have g2 : decide ((n : Int) < (m : Int)) = true := by simp; omega
  have g3 : decide (m < n) = false := by simp; omega
  have g4 : decide ((m : Int) < (n : Int)) = false := by simp; omega
  have f3 : decide (q < 64) = true := by simpa using h64
  have f4 : (m == ev) = false := by simpa using hne
  have f5 : ((m : Int) == (ev : Int)) = false := by simp; omega
  have tok0 : True := trivial
  have tp0 : True := trivial
  go_enter Try.func31, Try.ntmps31
  go_wp2_with (first
    | (go_skip)
    | (refine supBox (.tmp 2) rfl rfl HS.out rfl ?_; intro w1 hk hb1 hz1; replace HB := Lib.hid (below_ext HB.out hb1); have K9 := Lib.hid hk; clear hk hb1)
    | (refine supBox (.tmp 3) rfl rfl HT.out rfl ?_; intro w2 hk hb2 hz2; replace K9 := Lib.hid (K9.out.below hb2); replace HB := Lib.hid (below_ext HB.out hb2); have K10 := Lib.hid hk; clear hk hb2)
    | (refine supBox (.tmp 4) rfl rfl HN.out rfl ?_; intro w3 hk hb3 hz3; replace K9 := Lib.hid (K9.out.below hb3); replace K10 := Lib.hid (K10.out.below hb3); replace HB := Lib.hid (below_ext HB.out hb3); have K11 := Lib.hid hk; clear hk hb3)
    | (refine supLoad (.tmp 9) rfl K9.out rfl rfl ?_)
    | (have _t := tp0; go_at_call 106; refine (A1.out _).mono ?_; rintro e w4 ⟨rfl, hb4⟩; replace K9 := Lib.hid (K9.out.below hb4); replace K10 := Lib.hid (K10.out.below hb4); replace K11 := Lib.hid (K11.out.below hb4); replace HB := Lib.hid (below_ext HB.out hb4); have hz4 := hb4.size; clear hb4; have tp1 : True := trivial; clear _t tp0)
    | (have _t := tok0; refine F.blkAlloc rfl rfl ?_; intro w5 hk hb5 hz5; replace K9 := Lib.hid (K9.out.below hb5); replace K10 := Lib.hid (K10.out.below hb5); replace K11 := Lib.hid (K11.out.below hb5); replace HB := Lib.hid (below_ext HB.out hb5); have K15 := Lib.hid hk; have tok1 : True := trivial; clear hk hb5 _t tok0)
    | (refine F.blkStore (.tmp 15) (.tmp 30) rfl K15.out rfl rfl HX.out rfl ?_; intro w6 hk hg; replace HB := Lib.hid (below_at HB.out hg (by omega) K15.out.lt); replace K9 := Lib.hid (K9.out.grown hg (by omega)); replace K10 := Lib.hid (K10.out.grown hg (by omega)); replace K11 := Lib.hid (K11.out.grown hg (by omega)); replace K15 := Lib.hid hk; have hz6 := hg.size; clear hk hg)
    | (refine supLoad (.tmp 10) rfl K10.out rfl rfl ?_)
    | (have _t := tp1; go_at_call 106; refine (A2.out _).mono ?_; rintro e w7 ⟨rfl, hb7⟩; replace K9 := Lib.hid (K9.out.below hb7); replace K10 := Lib.hid (K10.out.below hb7); replace K11 := Lib.hid (K11.out.below hb7); replace K15 := Lib.hid (K15.out.below hb7); replace HB := Lib.hid (below_ext HB.out hb7); have hz7 := hb7.size; clear hb7; have tp2 : True := trivial; clear _t tp1)
    | (have _t := tok1; refine F.blkAlloc rfl rfl ?_; intro w8 hk hb8 hz8; replace K9 := Lib.hid (K9.out.below hb8); replace K10 := Lib.hid (K10.out.below hb8); replace K11 := Lib.hid (K11.out.below hb8); replace K15 := Lib.hid (K15.out.below hb8); replace HB := Lib.hid (below_ext HB.out hb8); have K17 := Lib.hid hk; have tok2 : True := trivial; clear hk hb8 _t tok1)
    | (refine F.blkStore (.tmp 17) (.tmp 36) rfl K17.out rfl rfl HY.out rfl ?_; intro w9 hk hg; replace HB := Lib.hid (below_at HB.out hg (by omega) K17.out.lt); replace K9 := Lib.hid (K9.out.grown hg (by omega)); replace K10 := Lib.hid (K10.out.grown hg (by omega)); replace K11 := Lib.hid (K11.out.grown hg (by omega)); replace K15 := Lib.hid (K15.out.grown hg (by omega)); replace K17 := Lib.hid hk; have hz9 := hg.size; clear hk hg)
    | (refine supLoad (.tmp 11) rfl K11.out rfl rfl ?_)
    | (refine maxS (.tmp 38) (.tmp 39) rfl n m M rfl rfl hM.out rfl ?_)
    | (refine addS (.tmp 40) (.const (.int .u64 1)) _ rfl M 1 v1 rfl rfl hv1.out rfl ?_)
    | (refine addS (.tmp 41) (.tmp 43) _ rfl v1 z ev rfl rfl hev.out rfl ?_)
    | (have _t := tp2; go_at_call 106; refine (A3.out _).mono ?_; rintro e w10 ⟨rfl, hb10⟩; replace K9 := Lib.hid (K9.out.below hb10); replace K10 := Lib.hid (K10.out.below hb10); replace K11 := Lib.hid (K11.out.below hb10); replace K15 := Lib.hid (K15.out.below hb10); replace K17 := Lib.hid (K17.out.below hb10); replace HB := Lib.hid (below_ext HB.out hb10); have hz10 := hb10.size; clear hb10; have tp3 : True := trivial; clear _t tp2)
    | (have _t := tok2; refine F.blkAlloc rfl rfl ?_; intro w11 hk hb11 hz11; replace K9 := Lib.hid (K9.out.below hb11); replace K10 := Lib.hid (K10.out.below hb11); replace K11 := Lib.hid (K11.out.below hb11); replace K15 := Lib.hid (K15.out.below hb11); replace K17 := Lib.hid (K17.out.below hb11); replace HB := Lib.hid (below_ext HB.out hb11); have K20 := Lib.hid hk; have tok3 : True := trivial; clear hk hb11 _t tok2)
    | (refine F.blkStore (.tmp 20) (.tmp 49) rfl K20.out rfl rfl HZ.out rfl ?_; intro w12 hk hg; replace HB := Lib.hid (below_at HB.out hg (by omega) K20.out.lt); replace K9 := Lib.hid (K9.out.grown hg (by omega)); replace K10 := Lib.hid (K10.out.grown hg (by omega)); replace K11 := Lib.hid (K11.out.grown hg (by omega)); replace K15 := Lib.hid (K15.out.grown hg (by omega)); replace K17 := Lib.hid (K17.out.grown hg (by omega)); replace K20 := Lib.hid hk; have hz12 := hg.size; clear hk hg)
    | (refine F.blkLoad (.tmp 15) rfl K15.out rfl rfl ?_)
    | (refine F.blkLoad (.tmp 17) rfl K17.out rfl rfl ?_)
    | (have _t := tp3; go_at_call 114; refine (S1.out _).mono ?_; rintro e w13 ⟨rfl, hb13⟩; replace K9 := Lib.hid (K9.out.below hb13); replace K10 := Lib.hid (K10.out.below hb13); replace K11 := Lib.hid (K11.out.below hb13); replace K15 := Lib.hid (K15.out.below hb13); replace K17 := Lib.hid (K17.out.below hb13); replace K20 := Lib.hid (K20.out.below hb13); replace HB := Lib.hid (below_ext HB.out hb13); have hz13 := hb13.size; clear hb13; have tp4 : True := trivial; clear _t tp3)
    | (refine F.blkLoad (.tmp 20) rfl K20.out rfl rfl ?_)
    | (have _t := tp4; go_at_call 63; refine (T1.out _).mono ?_; rintro e w14 ⟨rfl, hb14⟩; replace K9 := Lib.hid (K9.out.below hb14); replace K10 := Lib.hid (K10.out.below hb14); replace K11 := Lib.hid (K11.out.below hb14); replace K15 := Lib.hid (K15.out.below hb14); replace K17 := Lib.hid (K17.out.below hb14); replace K20 := Lib.hid (K20.out.below hb14); replace HB := Lib.hid (below_ext HB.out hb14); have hz14 := hb14.size; clear hb14; have tp5 : True := trivial; clear _t tp4)
    | (refine F.blkStore (.tmp 15) (.tmp 75) rfl K15.out rfl rfl HTl.out rfl ?_; intro w15 hk hg; replace HB := Lib.hid (below_at HB.out hg (by omega) K15.out.lt); replace K9 := Lib.hid (K9.out.grown hg (by omega)); replace K10 := Lib.hid (K10.out.grown hg (by omega)); replace K11 := Lib.hid (K11.out.grown hg (by omega)); replace K17 := Lib.hid (K17.out.grown hg (by omega)); replace K20 := Lib.hid (K20.out.grown hg (by omega)); replace K15 := Lib.hid hk; have hz15 := hg.size; clear hk hg)
    | (have _t := tp5; go_at_call 112; refine (P3.out _).mono ?_; rintro e w16 ⟨rfl, hb16⟩; replace K9 := Lib.hid (K9.out.below hb16); replace K10 := Lib.hid (K10.out.below hb16); replace K11 := Lib.hid (K11.out.below hb16); replace K15 := Lib.hid (K15.out.below hb16); replace K17 := Lib.hid (K17.out.below hb16); replace K20 := Lib.hid (K20.out.below hb16); replace HB := Lib.hid (below_ext HB.out hb16); have hz16 := hb16.size; clear hb16; have tp6 : True := trivial; clear _t tp5)
    | (have _t := tok3; refine supAlloc rfl rfl ?_; intro w17 hk hb17 hz17; replace K9 := Lib.hid (K9.out.below hb17); replace K10 := Lib.hid (K10.out.below hb17); replace K11 := Lib.hid (K11.out.below hb17); replace K15 := Lib.hid (K15.out.below hb17); replace K17 := Lib.hid (K17.out.below hb17); replace K20 := Lib.hid (K20.out.below hb17); replace HB := Lib.hid (below_ext HB.out hb17); have K24 := Lib.hid hk; clear hk hb17; have tok4 : True := trivial; clear _t tok3)
    | (refine supStore (.tmp 24) (.tmp 85) rfl K24.out rfl rfl HT.out rfl ?_; intro w18 hk hg; replace HB := Lib.hid (below_at HB.out hg (by omega) K24.out.lt); replace K9 := Lib.hid (K9.out.grown hg (by omega)); replace K10 := Lib.hid (K10.out.grown hg (by omega)); replace K11 := Lib.hid (K11.out.grown hg (by omega)); replace K15 := Lib.hid (K15.out.grown hg (by omega)); replace K17 := Lib.hid (K17.out.grown hg (by omega)); replace K20 := Lib.hid (K20.out.grown hg (by omega)); replace K24 := Lib.hid hk; have hz18 := hg.size; clear hk hg)
    | (refine supLoad (.tmp 24) rfl K24.out rfl rfl ?_)
    | (refine supEqlS (.tmp 133) (.tmp 134) _ rfl rfl rfl HT.out HT.out true (eqS_self _) rfl ?_)
    | (have _t := tp6; go_at_call 105; refine (sLives_any _).mono ?_; rintro e w19 ⟨rfl, hb19⟩; replace K9 := Lib.hid (K9.out.below hb19); replace K10 := Lib.hid (K10.out.below hb19); replace K11 := Lib.hid (K11.out.below hb19); replace K15 := Lib.hid (K15.out.below hb19); replace K17 := Lib.hid (K17.out.below hb19); replace K20 := Lib.hid (K20.out.below hb19); replace K24 := Lib.hid (K24.out.below hb19); replace HB := Lib.hid (below_ext HB.out hb19); have hz19 := hb19.size; clear hb19; have tp7 : True := trivial; clear _t tp6))
  go_ret
  exact ⟨rfl, HB.out⟩
end Go.Proofs.Ytdchcggllcgokaa.Q
