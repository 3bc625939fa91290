/-
  note.Follows at a note that may be. ashlarlaw13.lives: the walk over its callees' words. What is put is got: plain laws of notes. ashlarlaw13.lives: true. note.Follows at a note that may not be. ashlarlaw13.NoteGets: the walk. ashlarlaw13.NoteGets: true.
-/
import Derived.Test.YtdchcggllcgokaaNoteA
import Derived.Test.YtdchcggllcgokaaSealLaw1
namespace Go.Proofs.Ytdchcggllcgokaa.T
open Go.RowKit Go.Proofs.Ytdchcggllcgokaa.L Go.Proofs.Ytdchcggllcgokaa.U Go.Proofs.Ytdchcggllcgokaa.R Go.Proofs.Ytdchcggllcgokaa.E Go.Proofs.YtdchcggllcgokaaW.PrintWords
set_option linter.unusedVariables false
set_option linter.unusedSimpArgs false
set_option maxRecDepth 100000 in
set_option maxHeartbeats 1000000 in
theorem Follows_no (s a c m : Nat) (h1 : 1 ≤ s) (h2 : s ≤ 4611686018427387904) (h3 : a ≤ 4611686018427387904) (h4 : 1 ≤ c) (h5 : c ≤ 32) (u b : Nat) (d : Int) (k : Nat)
    (M1 : Hid (∀ w : World, Calls Try.prog 79 #[nagg s a c m] w fun e w' => e = .returned (.bool true) ∧ Below w.heap.size w w'))
    (M2 : Hid (∀ w : World, Calls Try.prog 79 #[nagg u b d k] w fun e w' => e = .returned (.bool false) ∧ Below w.heap.size w w')) (w : World) :
    Calls Try.prog 83 #[nagg s a c m, nagg u b d k] w fun e w' => e = .returned (.bool false) ∧ Below w.heap.size w w' := by
  have HB := Lib.hid (Below.refl w.heap.size w)
  have tok0 : True := trivial
  have eq1 : ((c : Int) + 15).tdiv 16 = (((c + 15) / 16 : Nat) : Int) := by rw [Int.tdiv_eq_ediv_of_nonneg (by omega)]; omega
  have eq2 : (((c : Int) + 16) - 1).tdiv 16 = (((c + 15) / 16 : Nat) : Int) := by rw [Int.tdiv_eq_ediv_of_nonneg (by omega)]; omega
  go_enter Try.func83, Try.ntmps83
  go_wp2_with (first
    | (go_skip)
    | (refine R.rowBox rfl 89 (.tmp 0) rfl rfl ?_; intro w1 hk hb1 hz1; replace HB := Lib.hid (below_ext HB.out hb1); have K2 := Lib.hid hk; clear hk hb1)
    | (refine R.rowBox rfl 89 (.tmp 1) rfl rfl ?_; intro w2 hk hb2 hz2; replace K2 := Lib.hid (K2.out.below hb2); replace HB := Lib.hid (below_ext HB.out hb2); have K3 := Lib.hid hk; clear hk hb2)
    | (refine rowCell rfl _ (.tmp 7) rfl (K2.out.cell (o := 2) rfl) rfl agg_int ?_)
    | (refine rowCell rfl _ (.tmp 12) rfl (K2.out.cell (o := 2) rfl) rfl agg_int ?_)
    | (refine rowCell rfl _ (.tmp 15) rfl (K2.out.cell (o := 0) rfl) rfl agg_u64 ?_)
    | (refine rowCell rfl _ (.tmp 18) rfl (K2.out.cell (o := 1) rfl) rfl agg_u64 ?_)
    | (refine rowCell rfl _ (.tmp 23) rfl (K3.out.cell (o := 2) rfl) rfl agg_int ?_)
    | (refine rowCell rfl _ (.tmp 25) rfl (K3.out.cell (o := 3) rfl) rfl agg_u32 ?_)
    | (have _t := tok0; refine R.rowAlloc rfl 89 rfl _ zero_note ?_; intro w3 hk hb3 hz3; replace K2 := Lib.hid (K2.out.below hb3); replace K3 := Lib.hid (K3.out.below hb3); replace HB := Lib.hid (below_ext HB.out hb3); have K6 := Lib.hid hk; have tok1 : True := trivial; clear hk hb3 _t tok0)
    | (refine R.rowStore (cs := #[.int .u64 ((s : Int) + 1), .int .u64 ((a : Int) + (((c : Int) + 15) / 16 + (c : Int))), .int .i64 d, .int .u32 k]) rfl 89 (.tmp 6) (.tmp 27) rfl K6.out rfl rfl info_note rfl (ones_note _ _ _ _) ?_; intro w4 hk hg; replace HB := Lib.hid (below_at HB.out hg (by omega) K6.out.lt); replace K2 := Lib.hid (K2.out.grown hg (by omega)); replace K3 := Lib.hid (K3.out.grown hg (by omega)); replace K6 := Lib.hid hk; have hz4 := hg.size; clear hk hg)
    | (refine rowLoad rfl 89 (.tmp 2) rfl K2.out rfl Try.underlying89 rfl info_note ?_)
    | (have _t := tok1; go_at_call 79; refine (M1.out _).mono ?_; rintro e w5 ⟨rfl, hb5⟩; replace K2 := Lib.hid (K2.out.below hb5); replace K3 := Lib.hid (K3.out.below hb5); replace K6 := Lib.hid (K6.out.below hb5); replace HB := Lib.hid (below_ext HB.out hb5); have hz5 := hb5.size; clear hb5; have tokM : True := trivial; clear _t tok1)
    | (refine rowLoad rfl 89 (.tmp 3) rfl K3.out rfl Try.underlying89 rfl info_note ?_)
    | (have _t := tokM; go_at_call 79; refine (M2.out _).mono ?_; rintro e w6 ⟨rfl, hb6⟩; replace K2 := Lib.hid (K2.out.below hb6); replace K3 := Lib.hid (K3.out.below hb6); replace K6 := Lib.hid (K6.out.below hb6); replace HB := Lib.hid (below_ext HB.out hb6); have hz6 := hb6.size; clear hb6; clear _t tokM)
    | (refine rowLoad rfl 89 (.tmp 6) rfl K6.out rfl Try.underlying89 rfl info_note ?_))
  go_ret
  exact ⟨rfl, HB.out⟩
set_option maxRecDepth 100000 in
set_option maxHeartbeats 1000000 in
theorem Follows_ok (s a c m : Nat) (h1 : 1 ≤ s) (h2 : s ≤ 4611686018427387904) (h3 : a ≤ 4611686018427387904) (h4 : 1 ≤ c) (h5 : c ≤ 32) (u b : Nat) (d : Int) (k : Nat)
    (M1 : Hid (∀ w : World, Calls Try.prog 79 #[nagg s a c m] w fun e w' => e = .returned (.bool true) ∧ Below w.heap.size w w'))
    (M2 : Hid (∀ w : World, Calls Try.prog 79 #[nagg u b d k] w fun e w' => e = .returned (.bool true) ∧ Below w.heap.size w w')) (w : World) :
    Calls Try.prog 83 #[nagg s a c m, nagg u b d k] w fun e w' => e = .returned (.bool (decide (u = s + 1 ∧ b = a + ((c + 15) / 16 + c)))) ∧ Below w.heap.size w w' := by
  have HB := Lib.hid (Below.refl w.heap.size w)
  have tok0 : True := trivial
  have eq1 : ((c : Int) + 15).tdiv 16 = (((c + 15) / 16 : Nat) : Int) := by rw [Int.tdiv_eq_ediv_of_nonneg (by omega)]; omega
  have eq2 : (((c : Int) + 16) - 1).tdiv 16 = (((c + 15) / 16 : Nat) : Int) := by rw [Int.tdiv_eq_ediv_of_nonneg (by omega)]; omega
  go_enter Try.func83, Try.ntmps83
  go_wp2_with (first
    | (go_skip)
    | (refine R.rowBox rfl 89 (.tmp 0) rfl rfl ?_; intro w1 hk hb1 hz1; replace HB := Lib.hid (below_ext HB.out hb1); have K2 := Lib.hid hk; clear hk hb1)
    | (refine R.rowBox rfl 89 (.tmp 1) rfl rfl ?_; intro w2 hk hb2 hz2; replace K2 := Lib.hid (K2.out.below hb2); replace HB := Lib.hid (below_ext HB.out hb2); have K3 := Lib.hid hk; clear hk hb2)
    | (refine rowCell rfl _ (.tmp 7) rfl (K2.out.cell (o := 2) rfl) rfl agg_int ?_)
    | (refine rowCell rfl _ (.tmp 12) rfl (K2.out.cell (o := 2) rfl) rfl agg_int ?_)
    | (refine rowCell rfl _ (.tmp 15) rfl (K2.out.cell (o := 0) rfl) rfl agg_u64 ?_)
    | (refine rowCell rfl _ (.tmp 18) rfl (K2.out.cell (o := 1) rfl) rfl agg_u64 ?_)
    | (refine rowCell rfl _ (.tmp 23) rfl (K3.out.cell (o := 2) rfl) rfl agg_int ?_)
    | (refine rowCell rfl _ (.tmp 25) rfl (K3.out.cell (o := 3) rfl) rfl agg_u32 ?_)
    | (have _t := tok0; refine R.rowAlloc rfl 89 rfl _ zero_note ?_; intro w3 hk hb3 hz3; replace K2 := Lib.hid (K2.out.below hb3); replace K3 := Lib.hid (K3.out.below hb3); replace HB := Lib.hid (below_ext HB.out hb3); have K6 := Lib.hid hk; have tok1 : True := trivial; clear hk hb3 _t tok0)
    | (refine R.rowStore (cs := #[.int .u64 ((s : Int) + 1), .int .u64 ((a : Int) + (((c : Int) + 15) / 16 + (c : Int))), .int .i64 d, .int .u32 k]) rfl 89 (.tmp 6) (.tmp 27) rfl K6.out rfl rfl info_note rfl (ones_note _ _ _ _) ?_; intro w4 hk hg; replace HB := Lib.hid (below_at HB.out hg (by omega) K6.out.lt); replace K2 := Lib.hid (K2.out.grown hg (by omega)); replace K3 := Lib.hid (K3.out.grown hg (by omega)); replace K6 := Lib.hid hk; have hz4 := hg.size; clear hk hg)
    | (refine rowLoad rfl 89 (.tmp 2) rfl K2.out rfl Try.underlying89 rfl info_note ?_)
    | (have _t := tok1; go_at_call 79; refine (M1.out _).mono ?_; rintro e w5 ⟨rfl, hb5⟩; replace K2 := Lib.hid (K2.out.below hb5); replace K3 := Lib.hid (K3.out.below hb5); replace K6 := Lib.hid (K6.out.below hb5); replace HB := Lib.hid (below_ext HB.out hb5); have hz5 := hb5.size; clear hb5; have tokM : True := trivial; clear _t tok1)
    | (refine rowLoad rfl 89 (.tmp 3) rfl K3.out rfl Try.underlying89 rfl info_note ?_)
    | (have _t := tokM; go_at_call 79; refine (M2.out _).mono ?_; rintro e w6 ⟨rfl, hb6⟩; replace K2 := Lib.hid (K2.out.below hb6); replace K3 := Lib.hid (K3.out.below hb6); replace K6 := Lib.hid (K6.out.below hb6); replace HB := Lib.hid (below_ext HB.out hb6); have hz6 := hb6.size; clear hb6; clear _t tokM)
    | (refine rowLoad rfl 89 (.tmp 6) rfl K6.out rfl Try.underlying89 rfl info_note ?_))
  all_goals
    go_ret
    exact ⟨ret_b (by rw [Bool.eq_iff_iff]; simp; omega), HB.out⟩
end Go.Proofs.Ytdchcggllcgokaa.T

namespace Go.Proofs.Ytdchcggllcgokaa.T
open Go.RowKit Go.Proofs.Ytdchcggllcgokaa.L Go.Proofs.Ytdchcggllcgokaa.U Go.Proofs.Ytdchcggllcgokaa.R Go.Proofs.Ytdchcggllcgokaa.E Go.Proofs.YtdchcggllcgokaaW.PrintWords
set_option linter.unusedVariables false
set_option linter.unusedSimpArgs false
set_option maxRecDepth 100000 in
set_option maxHeartbeats 1000000 in
theorem lives_walk (G : List Int) (HG : Hid (G.length = 64)) (HZ : Hid (zeros.length = 64))
    (P1 : Hid (∀ w : World, Calls Try.prog 77 #[.agg #[.int .u64 3, .int .u64 7, .int .i64 17, .int .u32 0]] w fun e w' => e = .returned (.tuple #[blk G, .int .i64 0]) ∧ Below w.heap.size w w'))
    (P2 : Hid (∀ w : World, Calls Try.prog 77 #[.agg #[.int .u64 0, .int .u64 0, .int .i64 0, .int .u32 0]] w fun e w' => e = .returned (.tuple #[blk zeros, .int .i64 2]) ∧ Below w.heap.size w w'))
    (P3 : Hid (∀ w : World, Calls Try.prog 86 #[blk G] w fun e w' => e = .returned (.tuple #[.agg #[.int .u64 3, .int .u64 7, .int .i64 17, .int .u32 0], .int .i64 0]) ∧ Below w.heap.size w w'))
    (P4 : Hid (∀ w : World, Calls Try.prog 81 #[.int .u64 9] w fun e w' => e = .returned (.int .i64 1) ∧ Below w.heap.size w w'))
    (P5 : Hid (∀ w : World, Calls Try.prog 83 #[.agg #[.int .u64 3, .int .u64 7, .int .i64 17, .int .u32 0], .agg #[.int .u64 4, .int .u64 26, .int .i64 1, .int .u32 0]] w fun e w' => e = .returned (.bool true) ∧ Below w.heap.size w w'))
    (P6 : Hid (∀ w : World, Calls Try.prog 83 #[.agg #[.int .u64 3, .int .u64 7, .int .i64 17, .int .u32 0], .agg #[.int .u64 4, .int .u64 24, .int .i64 1, .int .u32 0]] w fun e w' => e = .returned (.bool false) ∧ Below w.heap.size w w')) (w : World) :
    Calls Try.prog 85 #[] w fun e w' => e = .returned (.bool true) ∧ Below w.heap.size w w' := by
  have HB := Lib.hid (Below.refl w.heap.size w)
  have tok0 : True := trivial
  have tp0 : True := trivial
  go_enter Try.func85, Try.ntmps85
  go_wp2_with (first
    | (go_skip)
    | (have _t := tok0; refine R.rowAlloc rfl 89 rfl _ zero_note ?_; intro w1 hk hb1 hz1; replace HB := Lib.hid (below_ext HB.out hb1); have K1 := Lib.hid hk; have tok1 : True := trivial; clear hk hb1 _t tok0)
    | (refine R.rowStore (cs := #[.int .u64 3, .int .u64 7, .int .i64 17, .int .u32 0]) rfl 89 (.tmp 1) (.tmp 8) rfl K1.out rfl rfl info_note rfl (ones_note _ _ _ _) ?_; intro w2 hk hg; replace HB := Lib.hid (below_at HB.out hg (by omega) K1.out.lt); replace K1 := Lib.hid hk; have hz2 := hg.size; clear hk hg)
    | (refine rowLoad rfl 89 (.tmp 1) rfl K1.out rfl Try.underlying89 rfl info_note ?_)
    | (have _t := tp0; go_at_call 77; refine (P1.out _).mono ?_; rintro e w3 ⟨rfl, hb3⟩; replace K1 := Lib.hid (K1.out.below hb3); replace HB := Lib.hid (below_ext HB.out hb3); have hz3 := hb3.size; clear hb3; have tp1 : True := trivial; clear _t tp0)
    | (have _t := tok1; refine blkAlloc rfl rfl ?_; intro w4 hk hb4 hz4; replace K1 := Lib.hid (K1.out.below hb4); replace HB := Lib.hid (below_ext HB.out hb4); have K2 := Lib.hid hk; have tok2 : True := trivial; clear hk hb4 _t tok1)
    | (refine blkStore rfl (.tmp 2) (.tmp 12) rfl K2.out rfl rfl HG.out ?_; intro w5 hk hg; replace HB := Lib.hid (below_at HB.out hg (by omega) K2.out.lt); replace K1 := Lib.hid (K1.out.grown hg (by omega)); replace K2 := Lib.hid hk; have hz5 := hg.size; clear hk hg)
    | (have _t := tp1; go_at_call 77; refine (P2.out _).mono ?_; rintro e w6 ⟨rfl, hb6⟩; replace K1 := Lib.hid (K1.out.below hb6); replace K2 := Lib.hid (K2.out.below hb6); replace HB := Lib.hid (below_ext HB.out hb6); have hz6 := hb6.size; clear hb6; have tp2 : True := trivial; clear _t tp1)
    | (have _t := tok2; refine blkAlloc rfl rfl ?_; intro w7 hk hb7 hz7; replace K1 := Lib.hid (K1.out.below hb7); replace K2 := Lib.hid (K2.out.below hb7); replace HB := Lib.hid (below_ext HB.out hb7); have K4 := Lib.hid hk; have tok3 : True := trivial; clear hk hb7 _t tok2)
    | (refine blkStore rfl (.tmp 4) (.tmp 17) rfl K4.out rfl rfl HZ.out ?_; intro w8 hk hg; replace HB := Lib.hid (below_at HB.out hg (by omega) K4.out.lt); replace K1 := Lib.hid (K1.out.grown hg (by omega)); replace K2 := Lib.hid (K2.out.grown hg (by omega)); replace K4 := Lib.hid hk; have hz8 := hg.size; clear hk hg)
    | (refine blkLoad rfl (.tmp 2) rfl K2.out rfl ?_)
    | (have _t := tp2; go_at_call 86; refine (P3.out _).mono ?_; rintro e w9 ⟨rfl, hb9⟩; replace K1 := Lib.hid (K1.out.below hb9); replace K2 := Lib.hid (K2.out.below hb9); replace K4 := Lib.hid (K4.out.below hb9); replace HB := Lib.hid (below_ext HB.out hb9); have hz9 := hb9.size; clear hb9; have tp3 : True := trivial; clear _t tp2)
    | (have _t := tok3; refine R.rowAlloc rfl 89 rfl _ zero_note ?_; intro w10 hk hb10 hz10; replace K1 := Lib.hid (K1.out.below hb10); replace K2 := Lib.hid (K2.out.below hb10); replace K4 := Lib.hid (K4.out.below hb10); replace HB := Lib.hid (below_ext HB.out hb10); have K6 := Lib.hid hk; have tok4 : True := trivial; clear hk hb10 _t tok3)
    | (refine R.rowStore (cs := #[.int .u64 3, .int .u64 7, .int .i64 17, .int .u32 0]) rfl 89 (.tmp 6) (.tmp 22) rfl K6.out rfl rfl info_note rfl (ones_note _ _ _ _) ?_; intro w11 hk hg; replace HB := Lib.hid (below_at HB.out hg (by omega) K6.out.lt); replace K1 := Lib.hid (K1.out.grown hg (by omega)); replace K2 := Lib.hid (K2.out.grown hg (by omega)); replace K4 := Lib.hid (K4.out.grown hg (by omega)); replace K6 := Lib.hid hk; have hz11 := hg.size; clear hk hg)
    | (refine rowLoad rfl 89 (.tmp 6) rfl K6.out rfl Try.underlying89 rfl info_note ?_)
    | (have _t := tp3; go_at_call 81; refine (P4.out _).mono ?_; rintro e w12 ⟨rfl, hb12⟩; replace K1 := Lib.hid (K1.out.below hb12); replace K2 := Lib.hid (K2.out.below hb12); replace K4 := Lib.hid (K4.out.below hb12); replace K6 := Lib.hid (K6.out.below hb12); replace HB := Lib.hid (below_ext HB.out hb12); have hz12 := hb12.size; clear hb12; have tp4 : True := trivial; clear _t tp3)
    | (have _t := tp4; go_at_call 83; refine (P5.out _).mono ?_; rintro e w13 ⟨rfl, hb13⟩; replace K1 := Lib.hid (K1.out.below hb13); replace K2 := Lib.hid (K2.out.below hb13); replace K4 := Lib.hid (K4.out.below hb13); replace K6 := Lib.hid (K6.out.below hb13); replace HB := Lib.hid (below_ext HB.out hb13); have hz13 := hb13.size; clear hb13; have tp5 : True := trivial; clear _t tp4)
    | (have _t := tp5; go_at_call 83; refine (P6.out _).mono ?_; rintro e w14 ⟨rfl, hb14⟩; replace K1 := Lib.hid (K1.out.below hb14); replace K2 := Lib.hid (K2.out.below hb14); replace K4 := Lib.hid (K4.out.below hb14); replace K6 := Lib.hid (K6.out.below hb14); replace HB := Lib.hid (below_ext HB.out hb14); have hz14 := hb14.size; clear hb14; have tp6 : True := trivial; clear _t tp5))
  go_ret
  exact ⟨rfl, HB.out⟩
end Go.Proofs.Ytdchcggllcgokaa.T

namespace Go.Proofs.Ytdchcggllcgokaa.T
open Go.RowKit Go.Proofs.Ytdchcggllcgokaa.L Go.Proofs.Ytdchcggllcgokaa.U Go.Proofs.Ytdchcggllcgokaa.R Go.Proofs.Ytdchcggllcgokaa.E Go.Proofs.YtdchcggllcgokaaW.PrintWords
set_option linter.unusedVariables false
set_option linter.unusedSimpArgs false

def pad (a c m : Nat) : List Int := nbody a c m ++ Z 30
theorem pad_A {a c m : Nat} (h : a < 18446744073709551616) : fA (pad a c m) = a := by
  have h1 := get_put a 8 (by omega) [] (putb c 2 ++ (putb m 4 ++ Z 30))
  rw [fA, pad, nbody, List.append_assoc, List.append_assoc]
  simpa using h1
theorem pad_C {a c m : Nat} (h : c < 65536) : fC (pad a c m) = c := by
  have h1 := get_put c 2 (by omega) (putb a 8) (putb m 4 ++ Z 30)
  rw [putb_length] at h1
  rw [fC, pad, nbody, List.append_assoc, List.append_assoc]
  exact h1
theorem pad_M {a c m : Nat} (h : m < 4294967296) : fM (pad a c m) = m := by
  have h1 := get_put m 4 (by omega) (putb a 8 ++ putb c 2) (Z 30)
  rw [List.length_append, putb_length, putb_length] at h1
  rw [fM, pad, nbody, List.append_assoc (putb a 8 ++ putb c 2)]
  exact h1
theorem pad_tail (a c m : Nat) : (pad a c m).drop 14 = Z 30 := by
  rw [pad]; exact List.drop_left' (nbody_length a c m)
theorem gotN_put {s a c m : Nat} (hm : mayN s a c = true) (hs : s < 18446744073709551616) (ha : a < 18446744073709551616) (hmm : m < 4294967296) : gotN (sealed s (nbody a c m)) = ((s, a, c, m), 0) := by
  have hg := gots_sealed (n := s) (ys := nbody a c m) (by have := (may_ok hm).1; omega) hs (by rw [nbody_length]; omega)
  rw [nbody_length] at hg
  have hg' : gots (sealed s (nbody a c m)) = (s, pad a c m, 0) := hg
  have hc : c < 65536 := by have := (may_ok hm).2.2.2.2; omega
  rw [gotN_ok hg', pad_A ha, pad_C hc, pad_M hmm, if_pos ⟨hm, pad_tail a c m⟩]
end Go.Proofs.Ytdchcggllcgokaa.T

namespace Go.Proofs.Ytdchcggllcgokaa.T
open Go.RowKit Go.Proofs.Ytdchcggllcgokaa.L Go.Proofs.Ytdchcggllcgokaa.U Go.Proofs.Ytdchcggllcgokaa.R Go.Proofs.Ytdchcggllcgokaa.E Go.Proofs.YtdchcggllcgokaaW.PrintWords
set_option linter.unusedVariables false
set_option linter.unusedSimpArgs false

theorem may_3 : mayN 3 7 17 = true := by decide
theorem lives_any (w : World) : Calls Try.prog 85 #[] w fun e w' => e = .returned (.bool true) ∧ Below w.heap.size w w' := by
  have hl : (sealed 3 (nbody 7 17 0)).length = 64 := sealed_length (by rw [nbody_length]; omega)
  have hw : Wf8 (sealed 3 (nbody 7 17 0)) := sealed_wf 3 (nbody_wf 7 17 0)
  have hp := fun w => Put_any 3 7 ((17 : Nat) : Int) 0 (by omega) (by omega) ⟨by omega, by omega⟩ (by omega) w
  rw [note_ok may_3] at hp
  have hz := fun w => Put_any 0 0 ((0 : Nat) : Int) 0 (by omega) (by omega) ⟨by omega, by omega⟩ (by omega) w
  rw [note_no (n := 0) (a := 0) (c := 0) (m := 0) (by decide)] at hz
  have hg := fun w => Get_note _ hl hw w
  rw [gotN_put may_3 (by omega) (by omega) (by omega)] at hg
  generalize sealed 3 (nbody 7 17 0) = G at hl hp hg
  have m1 := fun w => May_any 3 7 ((17 : Nat) : Int) 0 (by omega) (by omega) ⟨by omega, by omega⟩ (by omega) w
  have m2 := fun w => May_any 4 26 ((1 : Nat) : Int) 0 (by omega) (by omega) ⟨by omega, by omega⟩ (by omega) w
  have m3 := fun w => May_any 4 24 ((1 : Nat) : Int) 0 (by omega) (by omega) ⟨by omega, by omega⟩ (by omega) w
  exact lives_walk G (Lib.hid hl) (Lib.hid zeros_length) (Lib.hid hp) (Lib.hid hz) (Lib.hid hg) (Lib.hid fun w => Slot_any 9 (by omega) w)
    (Lib.hid fun w => Follows_ok 3 7 17 0 (by omega) (by omega) (by omega) (by omega) (by omega) 4 26 1 0 (Lib.hid m1) (Lib.hid m2) w)
    (Lib.hid fun w => Follows_ok 3 7 17 0 (by omega) (by omega) (by omega) (by omega) (by omega) 4 24 1 0 (Lib.hid m1) (Lib.hid m3) w) w
end Go.Proofs.Ytdchcggllcgokaa.T

namespace Go.Proofs.Ytdchcggllcgokaa.T
open Go.RowKit Go.Proofs.Ytdchcggllcgokaa.L Go.Proofs.Ytdchcggllcgokaa.U Go.Proofs.Ytdchcggllcgokaa.R Go.Proofs.Ytdchcggllcgokaa.E Go.Proofs.YtdchcggllcgokaaW.PrintWords
set_option linter.unusedVariables false
set_option linter.unusedSimpArgs false
set_option maxRecDepth 100000 in
set_option maxHeartbeats 1000000 in
theorem Follows_unfit (s a : Nat) (c : Int) (m : Nat) (h1 : s < 18446744073709551616) (h2 : a < 18446744073709551616) (c1 : -9223372036854775808 ≤ c) (c2 : c ≤ 9223372036854775807) (u b : Nat) (d : Int) (k : Nat)
    (M1 : Hid (∀ w : World, Calls Try.prog 79 #[nagg s a c m] w fun e w' => e = .returned (.bool false) ∧ Below w.heap.size w w')) (w : World) :
    Calls Try.prog 83 #[nagg s a c m, nagg u b d k] w fun e w' => e = .returned (.bool false) ∧ Below w.heap.size w w' := by
  have HB := Lib.hid (Below.refl w.heap.size w)
  have tok0 : True := trivial
  go_enter Try.func83, Try.ntmps83
  go_wp2_with (first
    | (go_skip)
    | (refine R.rowBox rfl 89 (.tmp 0) rfl rfl ?_; intro w1 hk hb1 hz1; replace HB := Lib.hid (below_ext HB.out hb1); have K2 := Lib.hid hk; clear hk hb1)
    | (refine R.rowBox rfl 89 (.tmp 1) rfl rfl ?_; intro w2 hk hb2 hz2; replace K2 := Lib.hid (K2.out.below hb2); replace HB := Lib.hid (below_ext HB.out hb2); have K3 := Lib.hid hk; clear hk hb2)
    | (refine rowCell rfl _ (.tmp 7) rfl (K2.out.cell (o := 2) rfl) rfl agg_int ?_)
    | (refine rowCell rfl _ (.tmp 12) rfl (K2.out.cell (o := 2) rfl) rfl agg_int ?_)
    | (refine rowCell rfl _ (.tmp 15) rfl (K2.out.cell (o := 0) rfl) rfl agg_u64 ?_)
    | (refine rowCell rfl _ (.tmp 18) rfl (K2.out.cell (o := 1) rfl) rfl agg_u64 ?_)
    | (refine rowCell rfl _ (.tmp 23) rfl (K3.out.cell (o := 2) rfl) rfl agg_int ?_)
    | (refine rowCell rfl _ (.tmp 25) rfl (K3.out.cell (o := 3) rfl) rfl agg_u32 ?_)
    | (have _t := tok0; refine R.rowAlloc rfl 89 rfl _ zero_note ?_; intro w3 hk hb3 hz3; replace K2 := Lib.hid (K2.out.below hb3); replace K3 := Lib.hid (K3.out.below hb3); replace HB := Lib.hid (below_ext HB.out hb3); have K6 := Lib.hid hk; have tok1 : True := trivial; clear hk hb3 _t tok0)
    | (refine R.rowStore (cs := #[.int .u64 (IntKind.u64.wrap ((s : Int) + 1)), .int .u64 _, .int .i64 d, .int .u32 k]) rfl 89 (.tmp 6) (.tmp 27) rfl K6.out rfl rfl info_note rfl (ones_note _ _ _ _) ?_; intro w4 hk hg; replace HB := Lib.hid (below_at HB.out hg (by omega) K6.out.lt); replace K2 := Lib.hid (K2.out.grown hg (by omega)); replace K3 := Lib.hid (K3.out.grown hg (by omega)); replace K6 := Lib.hid hk; have hz4 := hg.size; clear hk hg)
    | (refine rowLoad rfl 89 (.tmp 2) rfl K2.out rfl Try.underlying89 rfl info_note ?_)
    | (go_at_call 79; refine (M1.out _).mono ?_; rintro e w5 ⟨rfl, hb5⟩; replace K2 := Lib.hid (K2.out.below hb5); replace K3 := Lib.hid (K3.out.below hb5); replace K6 := Lib.hid (K6.out.below hb5); replace HB := Lib.hid (below_ext HB.out hb5); have hz5 := hb5.size; clear hb5))
  go_ret
  exact ⟨rfl, HB.out⟩
end Go.Proofs.Ytdchcggllcgokaa.T

namespace Go.Proofs.Ytdchcggllcgokaa.T
open Go.RowKit Go.Proofs.Ytdchcggllcgokaa.L Go.Proofs.Ytdchcggllcgokaa.U Go.Proofs.Ytdchcggllcgokaa.R Go.Proofs.Ytdchcggllcgokaa.E Go.Proofs.YtdchcggllcgokaaW.PrintWords
set_option linter.unusedVariables false
set_option linter.unusedSimpArgs false

abbrev GetE (xs : List Int) (s a c m : Nat) (k : Int) : Prop := ∀ w : World, Calls Try.prog 86 #[blk xs] w fun e w' => e = .returned (.tuple #[.agg #[.int .u64 (s : Int), .int .u64 (a : Int), .int .i64 (c : Int), .int .u32 (m : Int)], .int .i64 k]) ∧ Below w.heap.size w w'
abbrev rGetE (xs : List Int) (s a c m : Nat) (k : Int) : Prop := ∀ w : World, Calls Try.prog 87 #[blk xs] w fun e w' => e = .returned (.tuple #[.agg #[.int .u64 (s : Int), .int .u64 (a : Int), .int .i64 (c : Int), .int .u32 (m : Int)], .int .i64 k]) ∧ Below w.heap.size w w'
theorem get_e {xs : List Int} (hl : xs.length = 64) (hw : Wf8 xs) {s a c m : Nat} {k : Int} (h : gotN xs = ((s, a, c, m), k)) : GetE xs s a c m k := fun w => by
  have h2 := Get_note xs hl hw w
  rw [h] at h2
  exact h2
theorem rget_e {xs : List Int} (hl : xs.length = 64) (hw : Wf8 xs) {s a c m : Nat} {k : Int} (h : gotN xs = ((s, a, c, m), k)) : rGetE xs s a c m k := fun w => by
  have h2 := rGet_note xs hl hw w
  rw [h] at h2
  exact h2
set_option maxRecDepth 100000 in
set_option maxHeartbeats 2000000 in
theorem Gets_err (xs : List Int) (HX : Hid (xs.length = 64)) (n : Nat) (hn : n < 18446744073709551616) (B : Option Addr) (cap : Nat) (ys : List Int) (S : List Int) (HS : Hid (S.length = 64)) (s1 a1 c1 m1 : Nat) (k1 : Int) (k3 : Int) (h3 : (k3 != 0) = true) (P3 : Hid (rPutB n ys S k3))
    (P1 : Hid (GetE xs s1 a1 c1 m1 k1)) (P2 : Hid (rGetE xs s1 a1 c1 m1 k1)) (w : World) (HR : Hid (ReadsInt w .u8 B ys.length ys)) :
    Calls Try.prog 21 #[blk xs, .int .u64 (n : Int), .slice B ys.length cap] w fun e w' => e = .returned (.bool true) ∧ Below w.heap.size w w' := by
  have HB := Lib.hid (Below.refl w.heap.size w)
  have tok0 : True := trivial
  have tp0 : True := trivial
  go_enter Try.func21, Try.ntmps21
  go_wp2_with (first
    | (go_skip)
    | (refine blkBox rfl (.tmp 0) rfl rfl HX.out ?_; intro w1 hk hb1 hz1; replace HB := Lib.hid (below_ext HB.out hb1); have K3 := Lib.hid hk; clear hk hb1)
    | (refine blkLoad rfl (.tmp 3) rfl K3.out rfl ?_)
    | (have _t := tp0; go_at_call 86; refine (P1.out _).mono ?_; rintro e w2 ⟨rfl, hb2⟩; replace K3 := Lib.hid (K3.out.below hb2); replace HB := Lib.hid (below_ext HB.out hb2); have hz2 := hb2.size; clear hb2; have tp1 : True := trivial; clear _t tp0)
    | (have _t := tok0; refine R.rowAlloc rfl 89 rfl _ zero_note ?_; intro w3 hk hb3 hz3; replace K3 := Lib.hid (K3.out.below hb3); replace HB := Lib.hid (below_ext HB.out hb3); have K7 := Lib.hid hk; have tok1 : True := trivial; clear hk hb3 _t tok0)
    | (refine R.rowStore (cs := #[.int .u64 (s1 : Int), .int .u64 (a1 : Int), .int .i64 (c1 : Int), .int .u32 (m1 : Int)]) rfl 89 (.tmp 7) (.tmp 16) rfl K7.out rfl rfl info_note rfl (ones_note _ _ _ _) ?_; intro w4 hk hg; replace HB := Lib.hid (below_at HB.out hg (by omega) K7.out.lt); replace K3 := Lib.hid (K3.out.grown hg (by omega)); replace K7 := Lib.hid hk; have hz4 := hg.size; clear hk hg)
    | (have _t := tp1; go_at_call 87; refine (P2.out _).mono ?_; rintro e w5 ⟨rfl, hb5⟩; replace K3 := Lib.hid (K3.out.below hb5); replace K7 := Lib.hid (K7.out.below hb5); replace HB := Lib.hid (below_ext HB.out hb5); have hz5 := hb5.size; clear hb5; have tp2 : True := trivial; clear _t tp1)
    | (have _t := tok1; refine R.rowAlloc rfl 89 rfl _ zero_note ?_; intro w6 hk hb6 hz6; replace K3 := Lib.hid (K3.out.below hb6); replace K7 := Lib.hid (K7.out.below hb6); replace HB := Lib.hid (below_ext HB.out hb6); have K9 := Lib.hid hk; have tok2 : True := trivial; clear hk hb6 _t tok1)
    | (refine R.rowStore (cs := #[.int .u64 (s1 : Int), .int .u64 (a1 : Int), .int .i64 (c1 : Int), .int .u32 (m1 : Int)]) rfl 89 (.tmp 9) (.tmp 21) rfl K9.out rfl rfl info_note rfl (ones_note _ _ _ _) ?_; intro w7 hk hg; replace HB := Lib.hid (below_at HB.out hg (by omega) K9.out.lt); replace K3 := Lib.hid (K3.out.grown hg (by omega)); replace K7 := Lib.hid (K7.out.grown hg (by omega)); replace K9 := Lib.hid hk; have hz7 := hg.size; clear hk hg)
    | (refine rowLoad rfl 89 (.tmp 7) rfl K7.out rfl Try.underlying89 rfl info_note ?_)
    | (refine rowLoad rfl 89 (.tmp 9) rfl K9.out rfl Try.underlying89 rfl info_note ?_)
    | (have _t := tp2; go_at_call 57; refine (P3.out _ _ _ (HR.out.below HB.out)).mono ?_; rintro e w8 ⟨rfl, hb8⟩; replace K3 := Lib.hid (K3.out.below hb8); replace K7 := Lib.hid (K7.out.below hb8); replace K9 := Lib.hid (K9.out.below hb8); replace HB := Lib.hid (below_ext HB.out hb8); have hz8 := hb8.size; clear hb8; have tp3 : True := trivial; clear _t tp2)
    | (have _t := tok2; refine blkAlloc rfl rfl ?_; intro w9 hk hb9 hz9; replace K3 := Lib.hid (K3.out.below hb9); replace K7 := Lib.hid (K7.out.below hb9); replace K9 := Lib.hid (K9.out.below hb9); replace HB := Lib.hid (below_ext HB.out hb9); have K11 := Lib.hid hk; have tok3 : True := trivial; clear hk hb9 _t tok2)
    | (refine blkStore rfl (.tmp 11) (.tmp 35) rfl K11.out rfl rfl HS.out ?_; intro w10 hk hg; replace HB := Lib.hid (below_at HB.out hg (by omega) K11.out.lt); replace K3 := Lib.hid (K3.out.grown hg (by omega)); replace K7 := Lib.hid (K7.out.grown hg (by omega)); replace K9 := Lib.hid (K9.out.grown hg (by omega)); replace K11 := Lib.hid hk; have hz10 := hg.size; clear hk hg)
    | (have _t := tp3; go_at_call 85; refine (lives_any _).mono ?_; rintro e w11 ⟨rfl, hb11⟩; replace K3 := Lib.hid (K3.out.below hb11); replace K7 := Lib.hid (K7.out.below hb11); replace K9 := Lib.hid (K9.out.below hb11); replace K11 := Lib.hid (K11.out.below hb11); replace HB := Lib.hid (below_ext HB.out hb11); have hz11 := hb11.size; clear hb11; have tp4 : True := trivial; clear _t tp3))
  go_ret
  exact ⟨rfl, HB.out⟩
set_option maxRecDepth 100000 in
set_option maxHeartbeats 2000000 in
theorem Gets_ok (xs : List Int) (HX : Hid (xs.length = 64)) (n : Nat) (hn : n < 18446744073709551616) (B : Option Addr) (cap : Nat) (ys : List Int) (S : List Int) (HS : Hid (S.length = 64)) (s1 a1 c1 m1 : Nat) (k1 : Int) (s2 a2 c2 m2 : Nat) (k2 : Int) (P3 : Hid (rPutB n ys S 0)) (P4 : Hid (GetE S s2 a2 c2 m2 k2)) (P5 : Hid (rGetE S s2 a2 c2 m2 k2))
    (P1 : Hid (GetE xs s1 a1 c1 m1 k1)) (P2 : Hid (rGetE xs s1 a1 c1 m1 k1)) (w : World) (HR : Hid (ReadsInt w .u8 B ys.length ys)) :
    Calls Try.prog 21 #[blk xs, .int .u64 (n : Int), .slice B ys.length cap] w fun e w' => e = .returned (.bool true) ∧ Below w.heap.size w w' := by
  have HB := Lib.hid (Below.refl w.heap.size w)
  have tok0 : True := trivial
  have tp0 : True := trivial
  go_enter Try.func21, Try.ntmps21
  go_wp2_with (first
    | (go_skip)
    | (refine blkBox rfl (.tmp 0) rfl rfl HX.out ?_; intro w1 hk hb1 hz1; replace HB := Lib.hid (below_ext HB.out hb1); have K3 := Lib.hid hk; clear hk hb1)
    | (refine blkLoad rfl (.tmp 3) rfl K3.out rfl ?_)
    | (have _t := tp0; go_at_call 86; refine (P1.out _).mono ?_; rintro e w2 ⟨rfl, hb2⟩; replace K3 := Lib.hid (K3.out.below hb2); replace HB := Lib.hid (below_ext HB.out hb2); have hz2 := hb2.size; clear hb2; have tp1 : True := trivial; clear _t tp0)
    | (have _t := tok0; refine R.rowAlloc rfl 89 rfl _ zero_note ?_; intro w3 hk hb3 hz3; replace K3 := Lib.hid (K3.out.below hb3); replace HB := Lib.hid (below_ext HB.out hb3); have K7 := Lib.hid hk; have tok1 : True := trivial; clear hk hb3 _t tok0)
    | (refine R.rowStore (cs := #[.int .u64 (s1 : Int), .int .u64 (a1 : Int), .int .i64 (c1 : Int), .int .u32 (m1 : Int)]) rfl 89 (.tmp 7) (.tmp 16) rfl K7.out rfl rfl info_note rfl (ones_note _ _ _ _) ?_; intro w4 hk hg; replace HB := Lib.hid (below_at HB.out hg (by omega) K7.out.lt); replace K3 := Lib.hid (K3.out.grown hg (by omega)); replace K7 := Lib.hid hk; have hz4 := hg.size; clear hk hg)
    | (have _t := tp1; go_at_call 87; refine (P2.out _).mono ?_; rintro e w5 ⟨rfl, hb5⟩; replace K3 := Lib.hid (K3.out.below hb5); replace K7 := Lib.hid (K7.out.below hb5); replace HB := Lib.hid (below_ext HB.out hb5); have hz5 := hb5.size; clear hb5; have tp2 : True := trivial; clear _t tp1)
    | (have _t := tok1; refine R.rowAlloc rfl 89 rfl _ zero_note ?_; intro w6 hk hb6 hz6; replace K3 := Lib.hid (K3.out.below hb6); replace K7 := Lib.hid (K7.out.below hb6); replace HB := Lib.hid (below_ext HB.out hb6); have K9 := Lib.hid hk; have tok2 : True := trivial; clear hk hb6 _t tok1)
    | (refine R.rowStore (cs := #[.int .u64 (s1 : Int), .int .u64 (a1 : Int), .int .i64 (c1 : Int), .int .u32 (m1 : Int)]) rfl 89 (.tmp 9) (.tmp 21) rfl K9.out rfl rfl info_note rfl (ones_note _ _ _ _) ?_; intro w7 hk hg; replace HB := Lib.hid (below_at HB.out hg (by omega) K9.out.lt); replace K3 := Lib.hid (K3.out.grown hg (by omega)); replace K7 := Lib.hid (K7.out.grown hg (by omega)); replace K9 := Lib.hid hk; have hz7 := hg.size; clear hk hg)
    | (refine rowLoad rfl 89 (.tmp 7) rfl K7.out rfl Try.underlying89 rfl info_note ?_)
    | (refine rowLoad rfl 89 (.tmp 9) rfl K9.out rfl Try.underlying89 rfl info_note ?_)
    | (have _t := tp2; go_at_call 57; refine (P3.out _ _ _ (HR.out.below HB.out)).mono ?_; rintro e w8 ⟨rfl, hb8⟩; replace K3 := Lib.hid (K3.out.below hb8); replace K7 := Lib.hid (K7.out.below hb8); replace K9 := Lib.hid (K9.out.below hb8); replace HB := Lib.hid (below_ext HB.out hb8); have hz8 := hb8.size; clear hb8; have tp3 : True := trivial; clear _t tp2)
    | (have _t := tok2; refine blkAlloc rfl rfl ?_; intro w9 hk hb9 hz9; replace K3 := Lib.hid (K3.out.below hb9); replace K7 := Lib.hid (K7.out.below hb9); replace K9 := Lib.hid (K9.out.below hb9); replace HB := Lib.hid (below_ext HB.out hb9); have K11 := Lib.hid hk; have tok3 : True := trivial; clear hk hb9 _t tok2)
    | (refine blkStore rfl (.tmp 11) (.tmp 35) rfl K11.out rfl rfl HS.out ?_; intro w10 hk hg; replace HB := Lib.hid (below_at HB.out hg (by omega) K11.out.lt); replace K3 := Lib.hid (K3.out.grown hg (by omega)); replace K7 := Lib.hid (K7.out.grown hg (by omega)); replace K9 := Lib.hid (K9.out.grown hg (by omega)); replace K11 := Lib.hid hk; have hz10 := hg.size; clear hk hg)
    | (refine blkLoad rfl (.tmp 11) rfl K11.out rfl ?_)
    | (have _t := tp3; go_at_call 86; refine (P4.out _).mono ?_; rintro e w11 ⟨rfl, hb11⟩; replace K3 := Lib.hid (K3.out.below hb11); replace K7 := Lib.hid (K7.out.below hb11); replace K9 := Lib.hid (K9.out.below hb11); replace K11 := Lib.hid (K11.out.below hb11); replace HB := Lib.hid (below_ext HB.out hb11); have hz11 := hb11.size; clear hb11; have tp4 : True := trivial; clear _t tp3)
    | (refine R.rowStore (cs := #[.int .u64 (s2 : Int), .int .u64 (a2 : Int), .int .i64 (c2 : Int), .int .u32 (m2 : Int)]) rfl 89 (.tmp 7) (.tmp 43) rfl K7.out rfl rfl info_note rfl (ones_note _ _ _ _) ?_; intro w12 hk hg; replace HB := Lib.hid (below_at HB.out hg (by omega) K7.out.lt); replace K3 := Lib.hid (K3.out.grown hg (by omega)); replace K9 := Lib.hid (K9.out.grown hg (by omega)); replace K11 := Lib.hid (K11.out.grown hg (by omega)); replace K7 := Lib.hid hk; have hz12 := hg.size; clear hk hg)
    | (have _t := tp4; go_at_call 87; refine (P5.out _).mono ?_; rintro e w13 ⟨rfl, hb13⟩; replace K3 := Lib.hid (K3.out.below hb13); replace K7 := Lib.hid (K7.out.below hb13); replace K9 := Lib.hid (K9.out.below hb13); replace K11 := Lib.hid (K11.out.below hb13); replace HB := Lib.hid (below_ext HB.out hb13); have hz13 := hb13.size; clear hb13; have tp5 : True := trivial; clear _t tp4)
    | (refine R.rowStore (cs := #[.int .u64 (s2 : Int), .int .u64 (a2 : Int), .int .i64 (c2 : Int), .int .u32 (m2 : Int)]) rfl 89 (.tmp 9) (.tmp 48) rfl K9.out rfl rfl info_note rfl (ones_note _ _ _ _) ?_; intro w14 hk hg; replace HB := Lib.hid (below_at HB.out hg (by omega) K9.out.lt); replace K3 := Lib.hid (K3.out.grown hg (by omega)); replace K7 := Lib.hid (K7.out.grown hg (by omega)); replace K11 := Lib.hid (K11.out.grown hg (by omega)); replace K9 := Lib.hid hk; have hz14 := hg.size; clear hk hg)
    | (have _t := tp5; go_at_call 85; refine (lives_any _).mono ?_; rintro e w15 ⟨rfl, hb15⟩; replace K3 := Lib.hid (K3.out.below hb15); replace K7 := Lib.hid (K7.out.below hb15); replace K9 := Lib.hid (K9.out.below hb15); replace K11 := Lib.hid (K11.out.below hb15); replace HB := Lib.hid (below_ext HB.out hb15); have hz15 := hb15.size; clear hb15; have tp6 : True := trivial; clear _t tp5))
  go_ret
  exact ⟨ret_b (by simp), HB.out⟩
end Go.Proofs.Ytdchcggllcgokaa.T

namespace Go.Proofs.Ytdchcggllcgokaa.T
open Go.RowKit Go.Proofs.Ytdchcggllcgokaa.L Go.Proofs.Ytdchcggllcgokaa.U Go.Proofs.Ytdchcggllcgokaa.R Go.Proofs.Ytdchcggllcgokaa.E Go.Proofs.YtdchcggllcgokaaW.PrintWords
set_option linter.unusedVariables false
set_option linter.unusedSimpArgs false

theorem gets_any (xs : List Int) (hl : xs.length = 64) (hw : Wf8 xs) (n : Nat) (hn : n < 18446744073709551616) (B : Option Addr) (cap : Nat) (ys : List Int) (hy : Wf8 ys) (w : World) (hr : ReadsInt w .u8 B ys.length ys) :
    Calls Try.prog 21 #[blk xs, .int .u64 (n : Int), .slice B ys.length cap] w fun e w' => e = .returned (.bool true) ∧ Below w.heap.size w w' := by
  obtain ⟨⟨S, k⟩, hS⟩ : ∃ q, q = seals n ys := ⟨_, rfl⟩
  have hSl : S.length = 64 := by have h := seals_length n ys; rwa [← hS] at h
  have hSw : Wf8 S := by have h := seals_wf n hy; rwa [← hS] at h
  obtain ⟨⟨⟨s1, a1, c1, m1⟩, k1⟩, h1⟩ : ∃ r, gotN xs = r := ⟨_, rfl⟩
  obtain ⟨⟨⟨s2, a2, c2, m2⟩, k2⟩, h2⟩ : ∃ r, gotN S = r := ⟨_, rfl⟩
  have P1 := get_e hl hw h1
  have P2 := rget_e hl hw h1
  have P3 := rput_b hn hy hS.symm
  have P4 := get_e hSl hSw h2
  have P5 := rget_e hSl hSw h2
  clear hS h1 h2
  by_cases h0 : k = 0
  · subst h0
    exact Gets_ok xs (Lib.hid hl) n hn B cap ys S (Lib.hid hSl) s1 a1 c1 m1 k1 s2 a2 c2 m2 k2 (Lib.hid P3) (Lib.hid P4) (Lib.hid P5) (Lib.hid P1) (Lib.hid P2) w (Lib.hid hr)
  · exact Gets_err xs (Lib.hid hl) n hn B cap ys S (Lib.hid hSl) s1 a1 c1 m1 k1 k (bne_iff_ne.2 h0) (Lib.hid P3) (Lib.hid P1) (Lib.hid P2) w (Lib.hid hr)
theorem gets_any' (l : List Int) (hl : l.length = 64) (hw : ∀ x ∈ l, (Lit.int .u8 x).wf = true) (n : Int) (wn : (Lit.int .u64 n).wf = true) (B : Option Addr) (cap : Nat) (ys : List Int) {w : World} (hr : ReadsInt w .u8 B ys.length ys) (y : ys.length * 1 ≤ 140737488351232) (hy : ∀ x ∈ ys, (Lit.int .u8 x).wf = true) (hc : ys.length ≤ cap) :
    Calls Try.prog 21 #[blk l, .int .u64 n, .slice B ys.length cap] w fun e w' => e = .returned (.bool true) ∧ Below w.heap.size w w' := by
  obtain ⟨n, rfl, hn⟩ := u64_nat wn
  exact gets_any l hl hw n hn B cap ys hy w hr
end Go.Proofs.Ytdchcggllcgokaa.T
