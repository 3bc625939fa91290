/-
  ashlarlaw13.NoteBack: the walks. ashlarlaw13.NoteFollows: the walks. ashlarlaw13.NoteBack, NoteFollows: true. ashlarref13.Follows: the walk. ashlarlaw13.NotePuts: true.
-/
import Derived.Test.YtdchcggllcgokaaNoteB
import Derived.Test.YtdchcggllcgokaaFast
import Derived.Test.YtdchcggllcgokaaQuiet
import Derived.Test.YtdchcggllcgokaaCell0
namespace Go.Proofs.Ytdchcggllcgokaa.T
open Go.RowKit Go.Proofs.Ytdchcggllcgokaa.L Go.Proofs.Ytdchcggllcgokaa.U Go.Proofs.Ytdchcggllcgokaa.R Go.Proofs.Ytdchcggllcgokaa.E Go.Proofs.YtdchcggllcgokaaW.PrintWords
set_option linter.unusedVariables false
set_option linter.unusedSimpArgs false
set_option maxRecDepth 100000 in
set_option maxHeartbeats 2000000 in
theorem Back_A1 (s a : Nat) (c : Int) (m : Nat) (X : List Int) (HL : Hid (X.length = 64)) (xs : List Int) (HX : Hid (xs.length = 64)) (s1 a1 c1 m1 : Nat) (k : Int) (kne : (k != 0) = true)
    (P1 : Hid (∀ w : World, Calls Try.prog 77 #[nagg s a c m] w fun e w' => e = .returned (.tuple #[blk X, .int .i64 0]) ∧ Below w.heap.size w w'))
    (P2 : Hid (∀ w : World, Calls Try.prog 86 #[blk X] w fun e w' => e = .returned (.tuple #[nagg s a c m, .int .i64 0]) ∧ Below w.heap.size w w'))
    (P3 : Hid (∀ w : World, Calls Try.prog 86 #[blk xs] w fun e w' => e = .returned (.tuple #[nagg s1 a1 (c1 : Int) m1, .int .i64 0]) ∧ Below w.heap.size w w'))
    (P4 : Hid (∀ w : World, Calls Try.prog 77 #[nagg s1 a1 (c1 : Int) m1] w fun e w' => e = .returned (.tuple #[blk xs, .int .i64 0]) ∧ Below w.heap.size w w')) (w : World) :
    Calls Try.prog 22 #[nagg s a c m, blk xs] w fun e w' => e = .returned (.bool true) ∧ Below w.heap.size w w' := by
  have HB := Lib.hid (Below.refl w.heap.size w)
  have tok0 : True := trivial
  have tp0 : True := trivial
  go_enter Try.func22, Try.ntmps22
  go_wp2_with (first
    | (go_skip)
    | (refine R.rowBox rfl 89 (.tmp 0) rfl rfl ?_; intro w1 hk hb1 hz1; replace HB := Lib.hid (below_ext HB.out hb1); have K2 := Lib.hid hk; clear hk hb1)
    | (refine blkBox rfl (.tmp 1) rfl rfl HX.out ?_; intro w2 hk hb2 hz2; replace K2 := Lib.hid (K2.out.below hb2); replace HB := Lib.hid (below_ext HB.out hb2); have K3 := Lib.hid hk; clear hk hb2)
    | (refine rowLoad rfl 89 (.tmp 2) rfl K2.out rfl Try.underlying89 rfl info_note ?_)
    | (have _t := tp0; go_at_call 77; refine (P1.out _).mono ?_; rintro e w3 ⟨rfl, hb3⟩; replace K2 := Lib.hid (K2.out.below hb3); replace K3 := Lib.hid (K3.out.below hb3); replace HB := Lib.hid (below_ext HB.out hb3); have hz3 := hb3.size; clear hb3; have tp1 : True := trivial; clear _t tp0)
    | (have _t := tok0; refine blkAlloc rfl rfl ?_; intro w4 hk hb4 hz4; replace K2 := Lib.hid (K2.out.below hb4); replace K3 := Lib.hid (K3.out.below hb4); replace HB := Lib.hid (below_ext HB.out hb4); have K5 := Lib.hid hk; have tok1 : True := trivial; clear hk hb4 _t tok0)
    | (refine blkStore rfl (.tmp 5) (.tmp 16) rfl K5.out rfl rfl HL.out ?_; intro w5 hk hg; replace HB := Lib.hid (below_at HB.out hg (by omega) K5.out.lt); replace K2 := Lib.hid (K2.out.grown hg (by omega)); replace K3 := Lib.hid (K3.out.grown hg (by omega)); replace K5 := Lib.hid hk; have hz5 := hg.size; clear hk hg)
    | (refine blkLoad rfl (.tmp 5) rfl K5.out rfl ?_)
    | (have _t := tp1; go_at_call 86; refine (P2.out _).mono ?_; rintro e w6 ⟨rfl, hb6⟩; replace K2 := Lib.hid (K2.out.below hb6); replace K3 := Lib.hid (K3.out.below hb6); replace K5 := Lib.hid (K5.out.below hb6); replace HB := Lib.hid (below_ext HB.out hb6); have hz6 := hb6.size; clear hb6; have tp2 : True := trivial; clear _t tp1)
    | (have _t := tok1; refine R.rowAlloc rfl 89 rfl _ zero_note ?_; intro w7 hk hb7 hz7; replace K2 := Lib.hid (K2.out.below hb7); replace K3 := Lib.hid (K3.out.below hb7); replace K5 := Lib.hid (K5.out.below hb7); replace HB := Lib.hid (below_ext HB.out hb7); have K7 := Lib.hid hk; have tok2 : True := trivial; clear hk hb7 _t tok1)
    | (refine R.rowStore (cs := #[.int .u64 (s : Int), .int .u64 (a : Int), .int .i64 c, .int .u32 (m : Int)]) rfl 89 (.tmp 7) (.tmp 23) rfl K7.out rfl rfl info_note rfl (ones_note _ _ _ _) ?_; intro w8 hk hg; replace HB := Lib.hid (below_at HB.out hg (by omega) K7.out.lt); replace K2 := Lib.hid (K2.out.grown hg (by omega)); replace K3 := Lib.hid (K3.out.grown hg (by omega)); replace K5 := Lib.hid (K5.out.grown hg (by omega)); replace K7 := Lib.hid hk; have hz8 := hg.size; clear hk hg)
    | (refine rowLoad rfl 89 (.tmp 7) rfl K7.out rfl Try.underlying89 rfl info_note ?_)
    | (refine rowLoad rfl 89 (.tmp 2) rfl K2.out rfl Try.underlying89 rfl info_note ?_)
    | (refine blkLoad rfl (.tmp 3) rfl K3.out rfl ?_)
    | (have _t := tp2; go_at_call 86; refine (P3.out _).mono ?_; rintro e w9 ⟨rfl, hb9⟩; replace K2 := Lib.hid (K2.out.below hb9); replace K3 := Lib.hid (K3.out.below hb9); replace K5 := Lib.hid (K5.out.below hb9); replace K7 := Lib.hid (K7.out.below hb9); replace HB := Lib.hid (below_ext HB.out hb9); have hz9 := hb9.size; clear hb9; have tp3 : True := trivial; clear _t tp2)
    | (have _t := tok2; refine R.rowAlloc rfl 89 rfl _ zero_note ?_; intro w10 hk hb10 hz10; replace K2 := Lib.hid (K2.out.below hb10); replace K3 := Lib.hid (K3.out.below hb10); replace K5 := Lib.hid (K5.out.below hb10); replace K7 := Lib.hid (K7.out.below hb10); replace HB := Lib.hid (below_ext HB.out hb10); have K9 := Lib.hid hk; have tok3 : True := trivial; clear hk hb10 _t tok2)
    | (refine R.rowStore (cs := #[.int .u64 (s1 : Int), .int .u64 (a1 : Int), .int .i64 (c1 : Int), .int .u32 (m1 : Int)]) rfl 89 (.tmp 9) (.tmp 37) rfl K9.out rfl rfl info_note rfl (ones_note _ _ _ _) ?_; intro w11 hk hg; replace HB := Lib.hid (below_at HB.out hg (by omega) K9.out.lt); replace K2 := Lib.hid (K2.out.grown hg (by omega)); replace K3 := Lib.hid (K3.out.grown hg (by omega)); replace K5 := Lib.hid (K5.out.grown hg (by omega)); replace K7 := Lib.hid (K7.out.grown hg (by omega)); replace K9 := Lib.hid hk; have hz11 := hg.size; clear hk hg)
    | (refine rowLoad rfl 89 (.tmp 9) rfl K9.out rfl Try.underlying89 rfl info_note ?_)
    | (have _t := tp3; go_at_call 77; refine (P4.out _).mono ?_; rintro e w12 ⟨rfl, hb12⟩; replace K2 := Lib.hid (K2.out.below hb12); replace K3 := Lib.hid (K3.out.below hb12); replace K5 := Lib.hid (K5.out.below hb12); replace K7 := Lib.hid (K7.out.below hb12); replace K9 := Lib.hid (K9.out.below hb12); replace HB := Lib.hid (below_ext HB.out hb12); have hz12 := hb12.size; clear hb12; have tp4 : True := trivial; clear _t tp3)
    | (have _t := tok3; refine blkAlloc rfl rfl ?_; intro w13 hk hb13 hz13; replace K2 := Lib.hid (K2.out.below hb13); replace K3 := Lib.hid (K3.out.below hb13); replace K5 := Lib.hid (K5.out.below hb13); replace K7 := Lib.hid (K7.out.below hb13); replace K9 := Lib.hid (K9.out.below hb13); replace HB := Lib.hid (below_ext HB.out hb13); have K11 := Lib.hid hk; have tok4 : True := trivial; clear hk hb13 _t tok3)
    | (refine blkStore rfl (.tmp 11) (.tmp 44) rfl K11.out rfl rfl HX.out ?_; intro w14 hk hg; replace HB := Lib.hid (below_at HB.out hg (by omega) K11.out.lt); replace K2 := Lib.hid (K2.out.grown hg (by omega)); replace K3 := Lib.hid (K3.out.grown hg (by omega)); replace K5 := Lib.hid (K5.out.grown hg (by omega)); replace K7 := Lib.hid (K7.out.grown hg (by omega)); replace K9 := Lib.hid (K9.out.grown hg (by omega)); replace K11 := Lib.hid hk; have hz14 := hg.size; clear hk hg)
    | (refine blkLoad rfl (.tmp 11) rfl K11.out rfl ?_)
    | (refine blkLoad rfl (.tmp 3) rfl K3.out rfl ?_)
    | (refine blkEql rfl (.tmp 49) (.tmp 50) _ rfl rfl rfl HX.out HX.out true (by simp) ?_)
    | (have _t := tp4; go_at_call 85; refine (lives_any _).mono ?_; rintro e w15 ⟨rfl, hb15⟩; replace K2 := Lib.hid (K2.out.below hb15); replace K3 := Lib.hid (K3.out.below hb15); replace K5 := Lib.hid (K5.out.below hb15); replace K7 := Lib.hid (K7.out.below hb15); replace K9 := Lib.hid (K9.out.below hb15); replace K11 := Lib.hid (K11.out.below hb15); replace HB := Lib.hid (below_ext HB.out hb15); have hz15 := hb15.size; clear hb15; have tp5 : True := trivial; clear _t tp4))
  all_goals
    go_ret
    exact ⟨ret_b (by simp), HB.out⟩
set_option maxRecDepth 100000 in
set_option maxHeartbeats 2000000 in
theorem Back_A2 (s a : Nat) (c : Int) (m : Nat) (X : List Int) (HL : Hid (X.length = 64)) (xs : List Int) (HX : Hid (xs.length = 64)) (s1 a1 c1 m1 : Nat) (k : Int) (kne : (k != 0) = true)
    (P1 : Hid (∀ w : World, Calls Try.prog 77 #[nagg s a c m] w fun e w' => e = .returned (.tuple #[blk X, .int .i64 0]) ∧ Below w.heap.size w w'))
    (P2 : Hid (∀ w : World, Calls Try.prog 86 #[blk X] w fun e w' => e = .returned (.tuple #[nagg s a c m, .int .i64 0]) ∧ Below w.heap.size w w'))
    (P3 : Hid (∀ w : World, Calls Try.prog 86 #[blk xs] w fun e w' => e = .returned (.tuple #[.agg #[.int .u64 0, .int .u64 0, .int .i64 0, .int .u32 0], .int .i64 k]) ∧ Below w.heap.size w w')) (w : World) :
    Calls Try.prog 22 #[nagg s a c m, blk xs] w fun e w' => e = .returned (.bool true) ∧ Below w.heap.size w w' := by
  have HB := Lib.hid (Below.refl w.heap.size w)
  have tok0 : True := trivial
  have tp0 : True := trivial
  go_enter Try.func22, Try.ntmps22
  go_wp2_with (first
    | (go_skip)
    | (refine R.rowBox rfl 89 (.tmp 0) rfl rfl ?_; intro w1 hk hb1 hz1; replace HB := Lib.hid (below_ext HB.out hb1); have K2 := Lib.hid hk; clear hk hb1)
    | (refine blkBox rfl (.tmp 1) rfl rfl HX.out ?_; intro w2 hk hb2 hz2; replace K2 := Lib.hid (K2.out.below hb2); replace HB := Lib.hid (below_ext HB.out hb2); have K3 := Lib.hid hk; clear hk hb2)
    | (refine rowLoad rfl 89 (.tmp 2) rfl K2.out rfl Try.underlying89 rfl info_note ?_)
    | (have _t := tp0; go_at_call 77; refine (P1.out _).mono ?_; rintro e w3 ⟨rfl, hb3⟩; replace K2 := Lib.hid (K2.out.below hb3); replace K3 := Lib.hid (K3.out.below hb3); replace HB := Lib.hid (below_ext HB.out hb3); have hz3 := hb3.size; clear hb3; have tp1 : True := trivial; clear _t tp0)
    | (have _t := tok0; refine blkAlloc rfl rfl ?_; intro w4 hk hb4 hz4; replace K2 := Lib.hid (K2.out.below hb4); replace K3 := Lib.hid (K3.out.below hb4); replace HB := Lib.hid (below_ext HB.out hb4); have K5 := Lib.hid hk; have tok1 : True := trivial; clear hk hb4 _t tok0)
    | (refine blkStore rfl (.tmp 5) (.tmp 16) rfl K5.out rfl rfl HL.out ?_; intro w5 hk hg; replace HB := Lib.hid (below_at HB.out hg (by omega) K5.out.lt); replace K2 := Lib.hid (K2.out.grown hg (by omega)); replace K3 := Lib.hid (K3.out.grown hg (by omega)); replace K5 := Lib.hid hk; have hz5 := hg.size; clear hk hg)
    | (refine blkLoad rfl (.tmp 5) rfl K5.out rfl ?_)
    | (have _t := tp1; go_at_call 86; refine (P2.out _).mono ?_; rintro e w6 ⟨rfl, hb6⟩; replace K2 := Lib.hid (K2.out.below hb6); replace K3 := Lib.hid (K3.out.below hb6); replace K5 := Lib.hid (K5.out.below hb6); replace HB := Lib.hid (below_ext HB.out hb6); have hz6 := hb6.size; clear hb6; have tp2 : True := trivial; clear _t tp1)
    | (have _t := tok1; refine R.rowAlloc rfl 89 rfl _ zero_note ?_; intro w7 hk hb7 hz7; replace K2 := Lib.hid (K2.out.below hb7); replace K3 := Lib.hid (K3.out.below hb7); replace K5 := Lib.hid (K5.out.below hb7); replace HB := Lib.hid (below_ext HB.out hb7); have K7 := Lib.hid hk; have tok2 : True := trivial; clear hk hb7 _t tok1)
    | (refine R.rowStore (cs := #[.int .u64 (s : Int), .int .u64 (a : Int), .int .i64 c, .int .u32 (m : Int)]) rfl 89 (.tmp 7) (.tmp 23) rfl K7.out rfl rfl info_note rfl (ones_note _ _ _ _) ?_; intro w8 hk hg; replace HB := Lib.hid (below_at HB.out hg (by omega) K7.out.lt); replace K2 := Lib.hid (K2.out.grown hg (by omega)); replace K3 := Lib.hid (K3.out.grown hg (by omega)); replace K5 := Lib.hid (K5.out.grown hg (by omega)); replace K7 := Lib.hid hk; have hz8 := hg.size; clear hk hg)
    | (refine rowLoad rfl 89 (.tmp 7) rfl K7.out rfl Try.underlying89 rfl info_note ?_)
    | (refine rowLoad rfl 89 (.tmp 2) rfl K2.out rfl Try.underlying89 rfl info_note ?_)
    | (refine blkLoad rfl (.tmp 3) rfl K3.out rfl ?_)
    | (have _t := tp2; go_at_call 86; refine (P3.out _).mono ?_; rintro e w9 ⟨rfl, hb9⟩; replace K2 := Lib.hid (K2.out.below hb9); replace K3 := Lib.hid (K3.out.below hb9); replace K5 := Lib.hid (K5.out.below hb9); replace K7 := Lib.hid (K7.out.below hb9); replace HB := Lib.hid (below_ext HB.out hb9); have hz9 := hb9.size; clear hb9; have tp3 : True := trivial; clear _t tp2)
    | (have _t := tok2; refine R.rowAlloc rfl 89 rfl _ zero_note ?_; intro w10 hk hb10 hz10; replace K2 := Lib.hid (K2.out.below hb10); replace K3 := Lib.hid (K3.out.below hb10); replace K5 := Lib.hid (K5.out.below hb10); replace K7 := Lib.hid (K7.out.below hb10); replace HB := Lib.hid (below_ext HB.out hb10); have K9 := Lib.hid hk; have tok3 : True := trivial; clear hk hb10 _t tok2)
    | (refine R.rowStore (cs := #[.int .u64 0, .int .u64 0, .int .i64 0, .int .u32 0]) rfl 89 (.tmp 9) (.tmp 37) rfl K9.out rfl rfl info_note rfl (ones_note _ _ _ _) ?_; intro w11 hk hg; replace HB := Lib.hid (below_at HB.out hg (by omega) K9.out.lt); replace K2 := Lib.hid (K2.out.grown hg (by omega)); replace K3 := Lib.hid (K3.out.grown hg (by omega)); replace K5 := Lib.hid (K5.out.grown hg (by omega)); replace K7 := Lib.hid (K7.out.grown hg (by omega)); replace K9 := Lib.hid hk; have hz11 := hg.size; clear hk hg)
    | (refine rowLoad rfl 89 (.tmp 9) rfl K9.out rfl Try.underlying89 rfl info_note ?_)
    | (have _t := tp3; go_at_call 85; refine (lives_any _).mono ?_; rintro e w12 ⟨rfl, hb12⟩; replace K2 := Lib.hid (K2.out.below hb12); replace K3 := Lib.hid (K3.out.below hb12); replace K5 := Lib.hid (K5.out.below hb12); replace K7 := Lib.hid (K7.out.below hb12); replace K9 := Lib.hid (K9.out.below hb12); replace HB := Lib.hid (below_ext HB.out hb12); have hz12 := hb12.size; clear hb12; have tp4 : True := trivial; clear _t tp3))
  all_goals
    go_ret
    exact ⟨ret_b (by simp), HB.out⟩
set_option maxRecDepth 100000 in
set_option maxHeartbeats 2000000 in
theorem Back_B1 (s a : Nat) (c : Int) (m : Nat) (X : List Int) (HL : Hid (X.length = 64)) (xs : List Int) (HX : Hid (xs.length = 64)) (s1 a1 c1 m1 : Nat) (k : Int) (kne : (k != 0) = true)
    (P1 : Hid (∀ w : World, Calls Try.prog 77 #[nagg s a c m] w fun e w' => e = .returned (.tuple #[blk zeros, .int .i64 2]) ∧ Below w.heap.size w w'))
    (P2 : Hid (∀ w : World, Calls Try.prog 79 #[nagg s a c m] w fun e w' => e = .returned (.bool false) ∧ Below w.heap.size w w'))
    (P3 : Hid (∀ w : World, Calls Try.prog 86 #[blk xs] w fun e w' => e = .returned (.tuple #[nagg s1 a1 (c1 : Int) m1, .int .i64 0]) ∧ Below w.heap.size w w'))
    (P4 : Hid (∀ w : World, Calls Try.prog 77 #[nagg s1 a1 (c1 : Int) m1] w fun e w' => e = .returned (.tuple #[blk xs, .int .i64 0]) ∧ Below w.heap.size w w')) (w : World) :
    Calls Try.prog 22 #[nagg s a c m, blk xs] w fun e w' => e = .returned (.bool true) ∧ Below w.heap.size w w' := by
  have HB := Lib.hid (Below.refl w.heap.size w)
  have tok0 : True := trivial
  have tp0 : True := trivial
  go_enter Try.func22, Try.ntmps22
  go_wp2_with (first
    | (go_skip)
    | (refine R.rowBox rfl 89 (.tmp 0) rfl rfl ?_; intro w1 hk hb1 hz1; replace HB := Lib.hid (below_ext HB.out hb1); have K2 := Lib.hid hk; clear hk hb1)
    | (refine blkBox rfl (.tmp 1) rfl rfl HX.out ?_; intro w2 hk hb2 hz2; replace K2 := Lib.hid (K2.out.below hb2); replace HB := Lib.hid (below_ext HB.out hb2); have K3 := Lib.hid hk; clear hk hb2)
    | (refine rowLoad rfl 89 (.tmp 2) rfl K2.out rfl Try.underlying89 rfl info_note ?_)
    | (have _t := tp0; go_at_call 77; refine (P1.out _).mono ?_; rintro e w3 ⟨rfl, hb3⟩; replace K2 := Lib.hid (K2.out.below hb3); replace K3 := Lib.hid (K3.out.below hb3); replace HB := Lib.hid (below_ext HB.out hb3); have hz3 := hb3.size; clear hb3; have tp1 : True := trivial; clear _t tp0)
    | (have _t := tok0; refine blkAlloc rfl rfl ?_; intro w4 hk hb4 hz4; replace K2 := Lib.hid (K2.out.below hb4); replace K3 := Lib.hid (K3.out.below hb4); replace HB := Lib.hid (below_ext HB.out hb4); have K5 := Lib.hid hk; have tok1 : True := trivial; clear hk hb4 _t tok0)
    | (refine blkStore rfl (.tmp 5) (.tmp 16) rfl K5.out rfl rfl zeros_length ?_; intro w5 hk hg; replace HB := Lib.hid (below_at HB.out hg (by omega) K5.out.lt); replace K2 := Lib.hid (K2.out.grown hg (by omega)); replace K3 := Lib.hid (K3.out.grown hg (by omega)); replace K5 := Lib.hid hk; have hz5 := hg.size; clear hk hg)
    | (refine rowLoad rfl 89 (.tmp 2) rfl K2.out rfl Try.underlying89 rfl info_note ?_)
    | (have _t := tp1; go_at_call 79; refine (P2.out _).mono ?_; rintro e w6 ⟨rfl, hb6⟩; replace K2 := Lib.hid (K2.out.below hb6); replace K3 := Lib.hid (K3.out.below hb6); replace K5 := Lib.hid (K5.out.below hb6); replace HB := Lib.hid (below_ext HB.out hb6); have hz6 := hb6.size; clear hb6; have tp2 : True := trivial; clear _t tp1)
    | (refine blkLoad rfl (.tmp 3) rfl K3.out rfl ?_)
    | (have _t := tp2; go_at_call 86; refine (P3.out _).mono ?_; rintro e w7 ⟨rfl, hb7⟩; replace K2 := Lib.hid (K2.out.below hb7); replace K3 := Lib.hid (K3.out.below hb7); replace K5 := Lib.hid (K5.out.below hb7); replace HB := Lib.hid (below_ext HB.out hb7); have hz7 := hb7.size; clear hb7; have tp3 : True := trivial; clear _t tp2)
    | (have _t := tok1; refine R.rowAlloc rfl 89 rfl _ zero_note ?_; intro w8 hk hb8 hz8; replace K2 := Lib.hid (K2.out.below hb8); replace K3 := Lib.hid (K3.out.below hb8); replace K5 := Lib.hid (K5.out.below hb8); replace HB := Lib.hid (below_ext HB.out hb8); have K9 := Lib.hid hk; have tok2 : True := trivial; clear hk hb8 _t tok1)
    | (refine R.rowStore (cs := #[.int .u64 (s1 : Int), .int .u64 (a1 : Int), .int .i64 (c1 : Int), .int .u32 (m1 : Int)]) rfl 89 (.tmp 9) (.tmp 37) rfl K9.out rfl rfl info_note rfl (ones_note _ _ _ _) ?_; intro w9 hk hg; replace HB := Lib.hid (below_at HB.out hg (by omega) K9.out.lt); replace K2 := Lib.hid (K2.out.grown hg (by omega)); replace K3 := Lib.hid (K3.out.grown hg (by omega)); replace K5 := Lib.hid (K5.out.grown hg (by omega)); replace K9 := Lib.hid hk; have hz9 := hg.size; clear hk hg)
    | (refine rowLoad rfl 89 (.tmp 9) rfl K9.out rfl Try.underlying89 rfl info_note ?_)
    | (have _t := tp3; go_at_call 77; refine (P4.out _).mono ?_; rintro e w10 ⟨rfl, hb10⟩; replace K2 := Lib.hid (K2.out.below hb10); replace K3 := Lib.hid (K3.out.below hb10); replace K5 := Lib.hid (K5.out.below hb10); replace K9 := Lib.hid (K9.out.below hb10); replace HB := Lib.hid (below_ext HB.out hb10); have hz10 := hb10.size; clear hb10; have tp4 : True := trivial; clear _t tp3)
    | (have _t := tok2; refine blkAlloc rfl rfl ?_; intro w11 hk hb11 hz11; replace K2 := Lib.hid (K2.out.below hb11); replace K3 := Lib.hid (K3.out.below hb11); replace K5 := Lib.hid (K5.out.below hb11); replace K9 := Lib.hid (K9.out.below hb11); replace HB := Lib.hid (below_ext HB.out hb11); have K11 := Lib.hid hk; have tok3 : True := trivial; clear hk hb11 _t tok2)
    | (refine blkStore rfl (.tmp 11) (.tmp 44) rfl K11.out rfl rfl HX.out ?_; intro w12 hk hg; replace HB := Lib.hid (below_at HB.out hg (by omega) K11.out.lt); replace K2 := Lib.hid (K2.out.grown hg (by omega)); replace K3 := Lib.hid (K3.out.grown hg (by omega)); replace K5 := Lib.hid (K5.out.grown hg (by omega)); replace K9 := Lib.hid (K9.out.grown hg (by omega)); replace K11 := Lib.hid hk; have hz12 := hg.size; clear hk hg)
    | (refine blkLoad rfl (.tmp 11) rfl K11.out rfl ?_)
    | (refine blkLoad rfl (.tmp 3) rfl K3.out rfl ?_)
    | (refine blkEql rfl (.tmp 49) (.tmp 50) _ rfl rfl rfl HX.out HX.out true (by simp) ?_)
    | (have _t := tp4; go_at_call 85; refine (lives_any _).mono ?_; rintro e w13 ⟨rfl, hb13⟩; replace K2 := Lib.hid (K2.out.below hb13); replace K3 := Lib.hid (K3.out.below hb13); replace K5 := Lib.hid (K5.out.below hb13); replace K9 := Lib.hid (K9.out.below hb13); replace K11 := Lib.hid (K11.out.below hb13); replace HB := Lib.hid (below_ext HB.out hb13); have hz13 := hb13.size; clear hb13; have tp5 : True := trivial; clear _t tp4))
  all_goals
    go_ret
    exact ⟨ret_b (by simp), HB.out⟩
set_option maxRecDepth 100000 in
set_option maxHeartbeats 2000000 in
theorem Back_B2 (s a : Nat) (c : Int) (m : Nat) (X : List Int) (HL : Hid (X.length = 64)) (xs : List Int) (HX : Hid (xs.length = 64)) (s1 a1 c1 m1 : Nat) (k : Int) (kne : (k != 0) = true)
    (P1 : Hid (∀ w : World, Calls Try.prog 77 #[nagg s a c m] w fun e w' => e = .returned (.tuple #[blk zeros, .int .i64 2]) ∧ Below w.heap.size w w'))
    (P2 : Hid (∀ w : World, Calls Try.prog 79 #[nagg s a c m] w fun e w' => e = .returned (.bool false) ∧ Below w.heap.size w w'))
    (P3 : Hid (∀ w : World, Calls Try.prog 86 #[blk xs] w fun e w' => e = .returned (.tuple #[.agg #[.int .u64 0, .int .u64 0, .int .i64 0, .int .u32 0], .int .i64 k]) ∧ Below w.heap.size w w')) (w : World) :
    Calls Try.prog 22 #[nagg s a c m, blk xs] w fun e w' => e = .returned (.bool true) ∧ Below w.heap.size w w' := by
  have HB := Lib.hid (Below.refl w.heap.size w)
  have tok0 : True := trivial
  have tp0 : True := trivial
  go_enter Try.func22, Try.ntmps22
  go_wp2_with (first
    | (go_skip)
    | (refine R.rowBox rfl 89 (.tmp 0) rfl rfl ?_; intro w1 hk hb1 hz1; replace HB := Lib.hid (below_ext HB.out hb1); have K2 := Lib.hid hk; clear hk hb1)
    | (refine blkBox rfl (.tmp 1) rfl rfl HX.out ?_; intro w2 hk hb2 hz2; replace K2 := Lib.hid (K2.out.below hb2); replace HB := Lib.hid (below_ext HB.out hb2); have K3 := Lib.hid hk; clear hk hb2)
    | (refine rowLoad rfl 89 (.tmp 2) rfl K2.out rfl Try.underlying89 rfl info_note ?_)
    | (have _t := tp0; go_at_call 77; refine (P1.out _).mono ?_; rintro e w3 ⟨rfl, hb3⟩; replace K2 := Lib.hid (K2.out.below hb3); replace K3 := Lib.hid (K3.out.below hb3); replace HB := Lib.hid (below_ext HB.out hb3); have hz3 := hb3.size; clear hb3; have tp1 : True := trivial; clear _t tp0)
    | (have _t := tok0; refine blkAlloc rfl rfl ?_; intro w4 hk hb4 hz4; replace K2 := Lib.hid (K2.out.below hb4); replace K3 := Lib.hid (K3.out.below hb4); replace HB := Lib.hid (below_ext HB.out hb4); have K5 := Lib.hid hk; have tok1 : True := trivial; clear hk hb4 _t tok0)
    | (refine blkStore rfl (.tmp 5) (.tmp 16) rfl K5.out rfl rfl zeros_length ?_; intro w5 hk hg; replace HB := Lib.hid (below_at HB.out hg (by omega) K5.out.lt); replace K2 := Lib.hid (K2.out.grown hg (by omega)); replace K3 := Lib.hid (K3.out.grown hg (by omega)); replace K5 := Lib.hid hk; have hz5 := hg.size; clear hk hg)
    | (refine rowLoad rfl 89 (.tmp 2) rfl K2.out rfl Try.underlying89 rfl info_note ?_)
    | (have _t := tp1; go_at_call 79; refine (P2.out _).mono ?_; rintro e w6 ⟨rfl, hb6⟩; replace K2 := Lib.hid (K2.out.below hb6); replace K3 := Lib.hid (K3.out.below hb6); replace K5 := Lib.hid (K5.out.below hb6); replace HB := Lib.hid (below_ext HB.out hb6); have hz6 := hb6.size; clear hb6; have tp2 : True := trivial; clear _t tp1)
    | (refine blkLoad rfl (.tmp 3) rfl K3.out rfl ?_)
    | (have _t := tp2; go_at_call 86; refine (P3.out _).mono ?_; rintro e w7 ⟨rfl, hb7⟩; replace K2 := Lib.hid (K2.out.below hb7); replace K3 := Lib.hid (K3.out.below hb7); replace K5 := Lib.hid (K5.out.below hb7); replace HB := Lib.hid (below_ext HB.out hb7); have hz7 := hb7.size; clear hb7; have tp3 : True := trivial; clear _t tp2)
    | (have _t := tok1; refine R.rowAlloc rfl 89 rfl _ zero_note ?_; intro w8 hk hb8 hz8; replace K2 := Lib.hid (K2.out.below hb8); replace K3 := Lib.hid (K3.out.below hb8); replace K5 := Lib.hid (K5.out.below hb8); replace HB := Lib.hid (below_ext HB.out hb8); have K9 := Lib.hid hk; have tok2 : True := trivial; clear hk hb8 _t tok1)
    | (refine R.rowStore (cs := #[.int .u64 0, .int .u64 0, .int .i64 0, .int .u32 0]) rfl 89 (.tmp 9) (.tmp 37) rfl K9.out rfl rfl info_note rfl (ones_note _ _ _ _) ?_; intro w9 hk hg; replace HB := Lib.hid (below_at HB.out hg (by omega) K9.out.lt); replace K2 := Lib.hid (K2.out.grown hg (by omega)); replace K3 := Lib.hid (K3.out.grown hg (by omega)); replace K5 := Lib.hid (K5.out.grown hg (by omega)); replace K9 := Lib.hid hk; have hz9 := hg.size; clear hk hg)
    | (refine rowLoad rfl 89 (.tmp 9) rfl K9.out rfl Try.underlying89 rfl info_note ?_)
    | (have _t := tp3; go_at_call 85; refine (lives_any _).mono ?_; rintro e w10 ⟨rfl, hb10⟩; replace K2 := Lib.hid (K2.out.below hb10); replace K3 := Lib.hid (K3.out.below hb10); replace K5 := Lib.hid (K5.out.below hb10); replace K9 := Lib.hid (K9.out.below hb10); replace HB := Lib.hid (below_ext HB.out hb10); have hz10 := hb10.size; clear hb10; have tp4 : True := trivial; clear _t tp3))
  all_goals
    go_ret
    exact ⟨ret_b (by simp), HB.out⟩
end Go.Proofs.Ytdchcggllcgokaa.T

namespace Go.Proofs.Ytdchcggllcgokaa.T
open Go.RowKit Go.Proofs.Ytdchcggllcgokaa.L Go.Proofs.Ytdchcggllcgokaa.U Go.Proofs.Ytdchcggllcgokaa.R Go.Proofs.Ytdchcggllcgokaa.E Go.Proofs.YtdchcggllcgokaaW.PrintWords
set_option linter.unusedVariables false
set_option linter.unusedSimpArgs false
set_option maxRecDepth 100000 in
set_option maxHeartbeats 2000000 in
theorem Fol_n0 (s a : Nat) (c : Int) (m : Nat) (p q mr on : Nat) (hs : s < 18446744073709551616) (ha : a < 18446744073709551616) 
    (PM : Hid (∀ w : World, Calls Try.prog 79 #[nagg s a c m] w fun e w' => e = .returned (.bool false) ∧ Below w.heap.size w w')) (w : World) :
    Calls Try.prog 23 #[nagg s a c m, .int .u8 (p : Int), .int .u32 (q : Int), .int .u8 (mr : Int), .int .u8 (on : Int)] w fun e w' => e = .returned (.bool true) ∧ Below w.heap.size w w' := by
  have HB := Lib.hid (Below.refl w.heap.size w)
  have tok0 : True := trivial
  have tp0 : True := trivial
  go_enter Try.func23, Try.ntmps23
  go_wp2_with (first
    | (go_skip)
    | (refine F.rowBox 89 (.tmp 0) rfl rfl rfl ?_; intro w1 hk hb1 hz1; replace HB := Lib.hid (below_ext HB.out hb1); have K5 := Lib.hid hk; clear hk hb1)
    | (refine F.rowLoad 89 (.tmp 5) rfl K5.out rfl Try.underlying89 rfl info_note rfl ?_)
    | (have _t := tp0; go_at_call 79; refine (PM.out _).mono ?_; rintro e w2 ⟨rfl, hb2⟩; replace K5 := Lib.hid (K5.out.below hb2); replace HB := Lib.hid (below_ext HB.out hb2); have hz2 := hb2.size; clear hb2; have tp1 : True := trivial; clear _t tp0)
    | (refine F.rowCell _ (.tmp 20) rfl (K5.out.cell (o := 0) rfl) rfl agg_u64 rfl ?_)
    | (refine F.rowCell _ (.tmp 25) rfl (K5.out.cell (o := 1) rfl) rfl agg_u64 rfl ?_)
    | (have _t := tp1; go_at_call 85; refine (lives_any _).mono ?_; rintro e w3 ⟨rfl, hb3⟩; replace K5 := Lib.hid (K5.out.below hb3); replace HB := Lib.hid (below_ext HB.out hb3); have hz3 := hb3.size; clear hb3; have tp2 : True := trivial; clear _t tp1))
  all_goals
    go_ret
    first | exact ⟨rfl, HB.out⟩ | exact ⟨ret_b (by simp), HB.out⟩
set_option maxRecDepth 100000 in
set_option maxHeartbeats 2000000 in
theorem Fol_n1 (s a : Nat) (c : Int) (m : Nat) (p q mr on : Nat) (hs : s < 18446744073709551616) (ha : a < 18446744073709551616) (h1 : 4611686018427387904 ≤ s)
    (PM : Hid (∀ w : World, Calls Try.prog 79 #[nagg s a c m] w fun e w' => e = .returned (.bool true) ∧ Below w.heap.size w w')) (w : World) :
    Calls Try.prog 23 #[nagg s a c m, .int .u8 (p : Int), .int .u32 (q : Int), .int .u8 (mr : Int), .int .u8 (on : Int)] w fun e w' => e = .returned (.bool true) ∧ Below w.heap.size w w' := by
  have HB := Lib.hid (Below.refl w.heap.size w)
  have gn1 : decide (4611686018427387904 ≤ s) = true := by simp; omega
  have gi1 : decide ((4611686018427387904 : Int) ≤ (s : Int)) = true := by simp; omega
  have tok0 : True := trivial
  have tp0 : True := trivial
  go_enter Try.func23, Try.ntmps23
  go_wp2_with (first
    | (go_skip)
    | (refine F.rowBox 89 (.tmp 0) rfl rfl rfl ?_; intro w1 hk hb1 hz1; replace HB := Lib.hid (below_ext HB.out hb1); have K5 := Lib.hid hk; clear hk hb1)
    | (refine F.rowLoad 89 (.tmp 5) rfl K5.out rfl Try.underlying89 rfl info_note rfl ?_)
    | (have _t := tp0; go_at_call 79; refine (PM.out _).mono ?_; rintro e w2 ⟨rfl, hb2⟩; replace K5 := Lib.hid (K5.out.below hb2); replace HB := Lib.hid (below_ext HB.out hb2); have hz2 := hb2.size; clear hb2; have tp1 : True := trivial; clear _t tp0)
    | (refine F.rowCell _ (.tmp 20) rfl (K5.out.cell (o := 0) rfl) rfl agg_u64 rfl ?_)
    | (refine F.rowCell _ (.tmp 25) rfl (K5.out.cell (o := 1) rfl) rfl agg_u64 rfl ?_)
    | (have _t := tp1; go_at_call 85; refine (lives_any _).mono ?_; rintro e w3 ⟨rfl, hb3⟩; replace K5 := Lib.hid (K5.out.below hb3); replace HB := Lib.hid (below_ext HB.out hb3); have hz3 := hb3.size; clear hb3; have tp2 : True := trivial; clear _t tp1))
  all_goals
    go_ret
    first | exact ⟨rfl, HB.out⟩ | exact ⟨ret_b (by simp), HB.out⟩
set_option maxRecDepth 100000 in
set_option maxHeartbeats 2000000 in
theorem Fol_n2 (s a : Nat) (c : Int) (m : Nat) (p q mr on : Nat) (hs : s < 18446744073709551616) (ha : a < 18446744073709551616) (h1 : s < 4611686018427387904) (h2 : 2305843009213693952 < a)
    (PM : Hid (∀ w : World, Calls Try.prog 79 #[nagg s a c m] w fun e w' => e = .returned (.bool true) ∧ Below w.heap.size w w')) (w : World) :
    Calls Try.prog 23 #[nagg s a c m, .int .u8 (p : Int), .int .u32 (q : Int), .int .u8 (mr : Int), .int .u8 (on : Int)] w fun e w' => e = .returned (.bool true) ∧ Below w.heap.size w w' := by
  have HB := Lib.hid (Below.refl w.heap.size w)
  have gn1 : decide (4611686018427387904 ≤ s) = false := by simp; omega
  have gi1 : decide ((4611686018427387904 : Int) ≤ (s : Int)) = false := by simp; omega
  have gn2 : decide (2305843009213693952 < a) = true := by simp; omega
  have gi2 : decide ((2305843009213693952 : Int) < (a : Int)) = true := by simp; omega
  have tok0 : True := trivial
  have tp0 : True := trivial
  go_enter Try.func23, Try.ntmps23
  go_wp2_with (first
    | (go_skip)
    | (refine F.rowBox 89 (.tmp 0) rfl rfl rfl ?_; intro w1 hk hb1 hz1; replace HB := Lib.hid (below_ext HB.out hb1); have K5 := Lib.hid hk; clear hk hb1)
    | (refine F.rowLoad 89 (.tmp 5) rfl K5.out rfl Try.underlying89 rfl info_note rfl ?_)
    | (have _t := tp0; go_at_call 79; refine (PM.out _).mono ?_; rintro e w2 ⟨rfl, hb2⟩; replace K5 := Lib.hid (K5.out.below hb2); replace HB := Lib.hid (below_ext HB.out hb2); have hz2 := hb2.size; clear hb2; have tp1 : True := trivial; clear _t tp0)
    | (refine F.rowCell _ (.tmp 20) rfl (K5.out.cell (o := 0) rfl) rfl agg_u64 rfl ?_)
    | (refine F.rowCell _ (.tmp 25) rfl (K5.out.cell (o := 1) rfl) rfl agg_u64 rfl ?_)
    | (have _t := tp1; go_at_call 85; refine (lives_any _).mono ?_; rintro e w3 ⟨rfl, hb3⟩; replace K5 := Lib.hid (K5.out.below hb3); replace HB := Lib.hid (below_ext HB.out hb3); have hz3 := hb3.size; clear hb3; have tp2 : True := trivial; clear _t tp1))
  all_goals
    go_ret
    first | exact ⟨rfl, HB.out⟩ | exact ⟨ret_b (by simp), HB.out⟩
set_option maxRecDepth 100000 in
set_option maxHeartbeats 2000000 in
theorem Fol_y0 (s a : Nat) (c : Nat) (m : Nat) (p q mr on : Nat) (h1 : 1 ≤ s) (h2 : s < 4611686018427387904) (h3 : a ≤ 2305843009213693952) (h4 : 1 ≤ c) (h5 : c ≤ 16) (hp : p < 256) (hq : q < 4294967296) (hm : mr < 256) (hn : on < 256) (z1 z2 : Bool) (e1i : ((mr : Int) == 0) = z1) (e2i : ((on : Int) == 0) = z2)
    (PM : Hid (∀ w : World, Calls Try.prog 79 #[nagg s a (c : Int) m] w fun e w' => e = .returned (.bool true) ∧ Below w.heap.size w w'))
    (F1 : Hid (∀ w : World, Calls Try.prog 83 #[nagg s a (c : Int) m, .agg #[.int .u64 ((s : Int) + 1), .int .u64 ((a : Int) + ((c : Int) + 1)), .int .i64 (1 + (p : Int) % 32), .int .u32 (q : Int)]] w fun e w' => e = .returned (.bool true) ∧ Below w.heap.size w w'))
    (F2 : Hid (∀ w : World, Calls Try.prog 83 #[nagg s a (c : Int) m, nagg s a (c : Int) m] w fun e w' => e = .returned (.bool false) ∧ Below w.heap.size w w'))
    (F3 : Hid (∀ w : World, Calls Try.prog 83 #[.agg #[.int .u64 ((s : Int) + 1), .int .u64 ((a : Int) + ((c : Int) + 1)), .int .i64 (1 + (p : Int) % 32), .int .u32 (q : Int)], nagg s a (c : Int) m] w fun e w' => e = .returned (.bool false) ∧ Below w.heap.size w w'))
    (F4 : Hid (∀ w : World, Calls Try.prog 83 #[nagg s a (c : Int) m, .agg #[.int .u64 ((s : Int) + 1), .int .u64 ((a : Int) + ((c : Int) + 1) + (mr : Int)), .int .i64 (1 + (p : Int) % 32), .int .u32 (q : Int)]] w fun e w' => e = .returned (.bool z1) ∧ Below w.heap.size w w'))
    (F5 : Hid (∀ w : World, Calls Try.prog 83 #[nagg s a (c : Int) m, .agg #[.int .u64 ((s : Int) + 1 + (on : Int)), .int .u64 ((a : Int) + ((c : Int) + 1)), .int .i64 (1 + (p : Int) % 32), .int .u32 (q : Int)]] w fun e w' => e = .returned (.bool z2) ∧ Below w.heap.size w w')) (w : World) :
    Calls Try.prog 23 #[nagg s a (c : Int) m, .int .u8 (p : Int), .int .u32 (q : Int), .int .u8 (mr : Int), .int .u8 (on : Int)] w fun e w' => e = .returned (.bool true) ∧ Below w.heap.size w w' := by
  have HB := Lib.hid (Below.refl w.heap.size w)
  have gn1 : decide (4611686018427387904 ≤ s) = false := by simp; omega
  have gi1 : decide ((4611686018427387904 : Int) ≤ (s : Int)) = false := by simp; omega
  have gn2 : decide (2305843009213693952 < a) = false := by simp; omega
  have gi2 : decide ((2305843009213693952 : Int) < (a : Int)) = false := by simp; omega
  have gn3 : decide (16 < c) = false := by simp; omega
  have gi3 : decide ((16 : Int) < (c : Int)) = false := by simp; omega
  have tok0 : True := trivial
  have tp0 : True := trivial
  go_enter Try.func23, Try.ntmps23
  go_wp2_with (first
    | (go_skip)
    | (refine F.rowBox 89 (.tmp 0) rfl rfl rfl ?_; intro w1 hk hb1 hz1; replace HB := Lib.hid (below_ext HB.out hb1); have K5 := Lib.hid hk; clear hk hb1)
    | (refine F.rowLoad 89 (.tmp 5) rfl K5.out rfl Try.underlying89 rfl info_note rfl ?_)
    | (have _t := tp0; go_at_call 79; refine (PM.out _).mono ?_; rintro e w2 ⟨rfl, hb2⟩; replace K5 := Lib.hid (K5.out.below hb2); replace HB := Lib.hid (below_ext HB.out hb2); have hz2 := hb2.size; clear hb2; have tp1 : True := trivial; clear _t tp0)
    | (refine F.rowCell _ (.tmp 20) rfl (K5.out.cell (o := 0) rfl) rfl agg_u64 rfl ?_)
    | (refine F.rowCell _ (.tmp 25) rfl (K5.out.cell (o := 1) rfl) rfl agg_u64 rfl ?_)
    | (refine F.rowCell _ (.tmp 34) rfl (K5.out.cell (o := 2) rfl) rfl agg_int rfl ?_)
    | (refine F.rowCell _ (.tmp 37) rfl (K5.out.cell (o := 2) rfl) rfl agg_int rfl ?_)
    | (refine F.rowCell _ (.tmp 42) rfl (K5.out.cell (o := 0) rfl) rfl agg_u64 rfl ?_)
    | (refine F.rowCell _ (.tmp 45) rfl (K5.out.cell (o := 1) rfl) rfl agg_u64 rfl ?_)
    | (have _t := tok0; refine F.rowAlloc 89 rfl _ zero_note rfl ?_; intro w3 hk hb3 hz3; replace K5 := Lib.hid (K5.out.below hb3); replace HB := Lib.hid (below_ext HB.out hb3); have K13 := Lib.hid hk; have tok1 : True := trivial; clear hk hb3 _t tok0)
    | (refine F.rowStore (cs := #[.int .u64 ((s : Int) + 1), .int .u64 ((a : Int) + ((c : Int) + 1)), .int .i64 (1 + (p : Int) % 32), .int .u32 ((q : Int))]) 89 (.tmp 13) (.tmp 52) rfl K13.out rfl rfl info_note rfl (ones_note _ _ _ _) rfl ?_; intro w4 hk hg; replace HB := Lib.hid (below_at HB.out hg (by omega) K13.out.lt); replace K5 := Lib.hid (K5.out.grown hg (by omega)); replace K13 := Lib.hid hk; have hz4 := hg.size; clear hk hg)
    | (refine F.rowLoad 89 (.tmp 13) rfl K13.out rfl Try.underlying89 rfl info_note rfl ?_)
    | (have _t := tp1; go_at_call 83; refine (F1.out _).mono ?_; rintro e w5 ⟨rfl, hb5⟩; replace K5 := Lib.hid (K5.out.below hb5); replace K13 := Lib.hid (K13.out.below hb5); replace HB := Lib.hid (below_ext HB.out hb5); have hz5 := hb5.size; clear hb5; have tp2 : True := trivial; clear _t tp1)
    | (have _t := tp2; go_at_call 83; refine (F2.out _).mono ?_; rintro e w6 ⟨rfl, hb6⟩; replace K5 := Lib.hid (K5.out.below hb6); replace K13 := Lib.hid (K13.out.below hb6); replace HB := Lib.hid (below_ext HB.out hb6); have hz6 := hb6.size; clear hb6; have tp3 : True := trivial; clear _t tp2)
    | (have _t := tp3; go_at_call 83; refine (F3.out _).mono ?_; rintro e w7 ⟨rfl, hb7⟩; replace K5 := Lib.hid (K5.out.below hb7); replace K13 := Lib.hid (K13.out.below hb7); replace HB := Lib.hid (below_ext HB.out hb7); have hz7 := hb7.size; clear hb7; have tp4 : True := trivial; clear _t tp3)
    | (have _t := tok1; refine F.rowAlloc 89 rfl _ zero_note rfl ?_; intro w8 hk hb8 hz8; replace K5 := Lib.hid (K5.out.below hb8); replace K13 := Lib.hid (K13.out.below hb8); replace HB := Lib.hid (below_ext HB.out hb8); have K14 := Lib.hid hk; have tok2 : True := trivial; clear hk hb8 _t tok1)
    | (refine F.rowStore (cs := #[.int .u64 ((s : Int) + 1), .int .u64 ((a : Int) + ((c : Int) + 1)), .int .i64 (1 + (p : Int) % 32), .int .u32 ((q : Int))]) 89 (.tmp 14) (.tmp 67) rfl K14.out rfl rfl info_note rfl (ones_note _ _ _ _) rfl ?_; intro w9 hk hg; replace HB := Lib.hid (below_at HB.out hg (by omega) K14.out.lt); replace K5 := Lib.hid (K5.out.grown hg (by omega)); replace K13 := Lib.hid (K13.out.grown hg (by omega)); replace K14 := Lib.hid hk; have hz9 := hg.size; clear hk hg)
    | (refine F.rowCell _ (.tmp 68) rfl (K14.out.cell (o := 1) rfl) rfl agg_u64 rfl ?_)
    | (refine F.rowSet _ (.tmp 73) (.tmp 72) rfl K14.out 1 (show (1 : Nat) < 4 by decide) rfl _ rfl rfl rfl info_u64 rfl ?_; intro w10 hk hg; replace HB := Lib.hid (below_at HB.out hg (by omega) K14.out.lt); replace K5 := Lib.hid (K5.out.grown hg (by omega)); replace K13 := Lib.hid (K13.out.grown hg (by omega)); replace K14 := Lib.hid (show Row 89 _ _ #[.int .u64 ((s : Int) + 1), .int .u64 ((a : Int) + ((c : Int) + 1) + (mr : Int)), .int .i64 (1 + (p : Int) % 32), .int .u32 ((q : Int))] from hk); have hz10 := hg.size; clear hk hg)
    | (have _t := tok2; refine F.rowAlloc 89 rfl _ zero_note rfl ?_; intro w11 hk hb11 hz11; replace K5 := Lib.hid (K5.out.below hb11); replace K13 := Lib.hid (K13.out.below hb11); replace K14 := Lib.hid (K14.out.below hb11); replace HB := Lib.hid (below_ext HB.out hb11); have K15 := Lib.hid hk; have tok3 : True := trivial; clear hk hb11 _t tok2)
    | (refine F.rowStore (cs := #[.int .u64 ((s : Int) + 1), .int .u64 ((a : Int) + ((c : Int) + 1)), .int .i64 (1 + (p : Int) % 32), .int .u32 ((q : Int))]) 89 (.tmp 15) (.tmp 74) rfl K15.out rfl rfl info_note rfl (ones_note _ _ _ _) rfl ?_; intro w12 hk hg; replace HB := Lib.hid (below_at HB.out hg (by omega) K15.out.lt); replace K5 := Lib.hid (K5.out.grown hg (by omega)); replace K13 := Lib.hid (K13.out.grown hg (by omega)); replace K14 := Lib.hid (K14.out.grown hg (by omega)); replace K15 := Lib.hid hk; have hz12 := hg.size; clear hk hg)
    | (refine F.rowCell _ (.tmp 75) rfl (K15.out.cell (o := 0) rfl) rfl agg_u64 rfl ?_)
    | (refine F.rowSet _ (.tmp 80) (.tmp 79) rfl K15.out 0 (show (0 : Nat) < 4 by decide) rfl _ rfl rfl rfl info_u64 rfl ?_; intro w13 hk hg; replace HB := Lib.hid (below_at HB.out hg (by omega) K15.out.lt); replace K5 := Lib.hid (K5.out.grown hg (by omega)); replace K13 := Lib.hid (K13.out.grown hg (by omega)); replace K14 := Lib.hid (K14.out.grown hg (by omega)); replace K15 := Lib.hid (show Row 89 _ _ #[.int .u64 ((s : Int) + 1 + (on : Int)), .int .u64 ((a : Int) + ((c : Int) + 1)), .int .i64 (1 + (p : Int) % 32), .int .u32 ((q : Int))] from hk); have hz13 := hg.size; clear hk hg)
    | (refine F.rowLoad 89 (.tmp 14) rfl K14.out rfl Try.underlying89 rfl info_note rfl ?_)
    | (have _t := tp4; go_at_call 83; refine (F4.out _).mono ?_; rintro e w14 ⟨rfl, hb14⟩; replace K5 := Lib.hid (K5.out.below hb14); replace K13 := Lib.hid (K13.out.below hb14); replace K14 := Lib.hid (K14.out.below hb14); replace K15 := Lib.hid (K15.out.below hb14); replace HB := Lib.hid (below_ext HB.out hb14); have hz14 := hb14.size; clear hb14; have tp5 : True := trivial; clear _t tp4)
    | (refine F.rowLoad 89 (.tmp 15) rfl K15.out rfl Try.underlying89 rfl info_note rfl ?_)
    | (have _t := tp5; go_at_call 83; refine (F5.out _).mono ?_; rintro e w15 ⟨rfl, hb15⟩; replace K5 := Lib.hid (K5.out.below hb15); replace K13 := Lib.hid (K13.out.below hb15); replace K14 := Lib.hid (K14.out.below hb15); replace K15 := Lib.hid (K15.out.below hb15); replace HB := Lib.hid (below_ext HB.out hb15); have hz15 := hb15.size; clear hb15; have tp6 : True := trivial; clear _t tp5)
    | (have _t := tp6; go_at_call 85; refine (lives_any _).mono ?_; rintro e w16 ⟨rfl, hb16⟩; replace K5 := Lib.hid (K5.out.below hb16); replace K13 := Lib.hid (K13.out.below hb16); replace K14 := Lib.hid (K14.out.below hb16); replace K15 := Lib.hid (K15.out.below hb16); replace HB := Lib.hid (below_ext HB.out hb16); have hz16 := hb16.size; clear hb16; have tp7 : True := trivial; clear _t tp6))
  all_goals
    go_ret
    first | exact ⟨rfl, HB.out⟩ | exact ⟨ret_b (by simp), HB.out⟩
set_option maxRecDepth 100000 in
set_option maxHeartbeats 2000000 in
theorem Fol_y1 (s a : Nat) (c : Nat) (m : Nat) (p q mr on : Nat) (h1 : 1 ≤ s) (h2 : s < 4611686018427387904) (h3 : a ≤ 2305843009213693952) (h4 : 1 ≤ c) (h5 : 16 < c ∧ c ≤ 32) (hp : p < 256) (hq : q < 4294967296) (hm : mr < 256) (hn : on < 256) (z1 z2 : Bool) (e1i : ((mr : Int) == 0) = z1) (e2i : ((on : Int) == 0) = z2)
    (PM : Hid (∀ w : World, Calls Try.prog 79 #[nagg s a (c : Int) m] w fun e w' => e = .returned (.bool true) ∧ Below w.heap.size w w'))
    (F1 : Hid (∀ w : World, Calls Try.prog 83 #[nagg s a (c : Int) m, .agg #[.int .u64 ((s : Int) + 1), .int .u64 ((a : Int) + ((c : Int) + 1 + 1)), .int .i64 (1 + (p : Int) % 32), .int .u32 (q : Int)]] w fun e w' => e = .returned (.bool true) ∧ Below w.heap.size w w'))
    (F2 : Hid (∀ w : World, Calls Try.prog 83 #[nagg s a (c : Int) m, nagg s a (c : Int) m] w fun e w' => e = .returned (.bool false) ∧ Below w.heap.size w w'))
    (F3 : Hid (∀ w : World, Calls Try.prog 83 #[.agg #[.int .u64 ((s : Int) + 1), .int .u64 ((a : Int) + ((c : Int) + 1 + 1)), .int .i64 (1 + (p : Int) % 32), .int .u32 (q : Int)], nagg s a (c : Int) m] w fun e w' => e = .returned (.bool false) ∧ Below w.heap.size w w'))
    (F4 : Hid (∀ w : World, Calls Try.prog 83 #[nagg s a (c : Int) m, .agg #[.int .u64 ((s : Int) + 1), .int .u64 ((a : Int) + ((c : Int) + 1 + 1) + (mr : Int)), .int .i64 (1 + (p : Int) % 32), .int .u32 (q : Int)]] w fun e w' => e = .returned (.bool z1) ∧ Below w.heap.size w w'))
    (F5 : Hid (∀ w : World, Calls Try.prog 83 #[nagg s a (c : Int) m, .agg #[.int .u64 ((s : Int) + 1 + (on : Int)), .int .u64 ((a : Int) + ((c : Int) + 1 + 1)), .int .i64 (1 + (p : Int) % 32), .int .u32 (q : Int)]] w fun e w' => e = .returned (.bool z2) ∧ Below w.heap.size w w')) (w : World) :
    Calls Try.prog 23 #[nagg s a (c : Int) m, .int .u8 (p : Int), .int .u32 (q : Int), .int .u8 (mr : Int), .int .u8 (on : Int)] w fun e w' => e = .returned (.bool true) ∧ Below w.heap.size w w' := by
  have HB := Lib.hid (Below.refl w.heap.size w)
  have gn1 : decide (4611686018427387904 ≤ s) = false := by simp; omega
  have gi1 : decide ((4611686018427387904 : Int) ≤ (s : Int)) = false := by simp; omega
  have gn2 : decide (2305843009213693952 < a) = false := by simp; omega
  have gi2 : decide ((2305843009213693952 : Int) < (a : Int)) = false := by simp; omega
  have gn3 : decide (16 < c) = true := by simp; omega
  have gi3 : decide ((16 : Int) < (c : Int)) = true := by simp; omega
  have tok0 : True := trivial
  have tp0 : True := trivial
  go_enter Try.func23, Try.ntmps23
  go_wp2_with (first
    | (go_skip)
    | (refine F.rowBox 89 (.tmp 0) rfl rfl rfl ?_; intro w1 hk hb1 hz1; replace HB := Lib.hid (below_ext HB.out hb1); have K5 := Lib.hid hk; clear hk hb1)
    | (refine F.rowLoad 89 (.tmp 5) rfl K5.out rfl Try.underlying89 rfl info_note rfl ?_)
    | (have _t := tp0; go_at_call 79; refine (PM.out _).mono ?_; rintro e w2 ⟨rfl, hb2⟩; replace K5 := Lib.hid (K5.out.below hb2); replace HB := Lib.hid (below_ext HB.out hb2); have hz2 := hb2.size; clear hb2; have tp1 : True := trivial; clear _t tp0)
    | (refine F.rowCell _ (.tmp 20) rfl (K5.out.cell (o := 0) rfl) rfl agg_u64 rfl ?_)
    | (refine F.rowCell _ (.tmp 25) rfl (K5.out.cell (o := 1) rfl) rfl agg_u64 rfl ?_)
    | (refine F.rowCell _ (.tmp 34) rfl (K5.out.cell (o := 2) rfl) rfl agg_int rfl ?_)
    | (refine F.rowCell _ (.tmp 37) rfl (K5.out.cell (o := 2) rfl) rfl agg_int rfl ?_)
    | (refine F.rowCell _ (.tmp 42) rfl (K5.out.cell (o := 0) rfl) rfl agg_u64 rfl ?_)
    | (refine F.rowCell _ (.tmp 45) rfl (K5.out.cell (o := 1) rfl) rfl agg_u64 rfl ?_)
    | (have _t := tok0; refine F.rowAlloc 89 rfl _ zero_note rfl ?_; intro w3 hk hb3 hz3; replace K5 := Lib.hid (K5.out.below hb3); replace HB := Lib.hid (below_ext HB.out hb3); have K13 := Lib.hid hk; have tok1 : True := trivial; clear hk hb3 _t tok0)
    | (refine F.rowStore (cs := #[.int .u64 ((s : Int) + 1), .int .u64 ((a : Int) + ((c : Int) + 1 + 1)), .int .i64 (1 + (p : Int) % 32), .int .u32 ((q : Int))]) 89 (.tmp 13) (.tmp 52) rfl K13.out rfl rfl info_note rfl (ones_note _ _ _ _) rfl ?_; intro w4 hk hg; replace HB := Lib.hid (below_at HB.out hg (by omega) K13.out.lt); replace K5 := Lib.hid (K5.out.grown hg (by omega)); replace K13 := Lib.hid hk; have hz4 := hg.size; clear hk hg)
    | (refine F.rowLoad 89 (.tmp 13) rfl K13.out rfl Try.underlying89 rfl info_note rfl ?_)
    | (have _t := tp1; go_at_call 83; refine (F1.out _).mono ?_; rintro e w5 ⟨rfl, hb5⟩; replace K5 := Lib.hid (K5.out.below hb5); replace K13 := Lib.hid (K13.out.below hb5); replace HB := Lib.hid (below_ext HB.out hb5); have hz5 := hb5.size; clear hb5; have tp2 : True := trivial; clear _t tp1)
    | (have _t := tp2; go_at_call 83; refine (F2.out _).mono ?_; rintro e w6 ⟨rfl, hb6⟩; replace K5 := Lib.hid (K5.out.below hb6); replace K13 := Lib.hid (K13.out.below hb6); replace HB := Lib.hid (below_ext HB.out hb6); have hz6 := hb6.size; clear hb6; have tp3 : True := trivial; clear _t tp2)
    | (have _t := tp3; go_at_call 83; refine (F3.out _).mono ?_; rintro e w7 ⟨rfl, hb7⟩; replace K5 := Lib.hid (K5.out.below hb7); replace K13 := Lib.hid (K13.out.below hb7); replace HB := Lib.hid (below_ext HB.out hb7); have hz7 := hb7.size; clear hb7; have tp4 : True := trivial; clear _t tp3)
    | (have _t := tok1; refine F.rowAlloc 89 rfl _ zero_note rfl ?_; intro w8 hk hb8 hz8; replace K5 := Lib.hid (K5.out.below hb8); replace K13 := Lib.hid (K13.out.below hb8); replace HB := Lib.hid (below_ext HB.out hb8); have K14 := Lib.hid hk; have tok2 : True := trivial; clear hk hb8 _t tok1)
    | (refine F.rowStore (cs := #[.int .u64 ((s : Int) + 1), .int .u64 ((a : Int) + ((c : Int) + 1 + 1)), .int .i64 (1 + (p : Int) % 32), .int .u32 ((q : Int))]) 89 (.tmp 14) (.tmp 67) rfl K14.out rfl rfl info_note rfl (ones_note _ _ _ _) rfl ?_; intro w9 hk hg; replace HB := Lib.hid (below_at HB.out hg (by omega) K14.out.lt); replace K5 := Lib.hid (K5.out.grown hg (by omega)); replace K13 := Lib.hid (K13.out.grown hg (by omega)); replace K14 := Lib.hid hk; have hz9 := hg.size; clear hk hg)
    | (refine F.rowCell _ (.tmp 68) rfl (K14.out.cell (o := 1) rfl) rfl agg_u64 rfl ?_)
    | (refine F.rowSet _ (.tmp 73) (.tmp 72) rfl K14.out 1 (show (1 : Nat) < 4 by decide) rfl _ rfl rfl rfl info_u64 rfl ?_; intro w10 hk hg; replace HB := Lib.hid (below_at HB.out hg (by omega) K14.out.lt); replace K5 := Lib.hid (K5.out.grown hg (by omega)); replace K13 := Lib.hid (K13.out.grown hg (by omega)); replace K14 := Lib.hid (show Row 89 _ _ #[.int .u64 ((s : Int) + 1), .int .u64 ((a : Int) + ((c : Int) + 1 + 1) + (mr : Int)), .int .i64 (1 + (p : Int) % 32), .int .u32 ((q : Int))] from hk); have hz10 := hg.size; clear hk hg)
    | (have _t := tok2; refine F.rowAlloc 89 rfl _ zero_note rfl ?_; intro w11 hk hb11 hz11; replace K5 := Lib.hid (K5.out.below hb11); replace K13 := Lib.hid (K13.out.below hb11); replace K14 := Lib.hid (K14.out.below hb11); replace HB := Lib.hid (below_ext HB.out hb11); have K15 := Lib.hid hk; have tok3 : True := trivial; clear hk hb11 _t tok2)
    | (refine F.rowStore (cs := #[.int .u64 ((s : Int) + 1), .int .u64 ((a : Int) + ((c : Int) + 1 + 1)), .int .i64 (1 + (p : Int) % 32), .int .u32 ((q : Int))]) 89 (.tmp 15) (.tmp 74) rfl K15.out rfl rfl info_note rfl (ones_note _ _ _ _) rfl ?_; intro w12 hk hg; replace HB := Lib.hid (below_at HB.out hg (by omega) K15.out.lt); replace K5 := Lib.hid (K5.out.grown hg (by omega)); replace K13 := Lib.hid (K13.out.grown hg (by omega)); replace K14 := Lib.hid (K14.out.grown hg (by omega)); replace K15 := Lib.hid hk; have hz12 := hg.size; clear hk hg)
    | (refine F.rowCell _ (.tmp 75) rfl (K15.out.cell (o := 0) rfl) rfl agg_u64 rfl ?_)
    | (refine F.rowSet _ (.tmp 80) (.tmp 79) rfl K15.out 0 (show (0 : Nat) < 4 by decide) rfl _ rfl rfl rfl info_u64 rfl ?_; intro w13 hk hg; replace HB := Lib.hid (below_at HB.out hg (by omega) K15.out.lt); replace K5 := Lib.hid (K5.out.grown hg (by omega)); replace K13 := Lib.hid (K13.out.grown hg (by omega)); replace K14 := Lib.hid (K14.out.grown hg (by omega)); replace K15 := Lib.hid (show Row 89 _ _ #[.int .u64 ((s : Int) + 1 + (on : Int)), .int .u64 ((a : Int) + ((c : Int) + 1 + 1)), .int .i64 (1 + (p : Int) % 32), .int .u32 ((q : Int))] from hk); have hz13 := hg.size; clear hk hg)
    | (refine F.rowLoad 89 (.tmp 14) rfl K14.out rfl Try.underlying89 rfl info_note rfl ?_)
    | (have _t := tp4; go_at_call 83; refine (F4.out _).mono ?_; rintro e w14 ⟨rfl, hb14⟩; replace K5 := Lib.hid (K5.out.below hb14); replace K13 := Lib.hid (K13.out.below hb14); replace K14 := Lib.hid (K14.out.below hb14); replace K15 := Lib.hid (K15.out.below hb14); replace HB := Lib.hid (below_ext HB.out hb14); have hz14 := hb14.size; clear hb14; have tp5 : True := trivial; clear _t tp4)
    | (refine F.rowLoad 89 (.tmp 15) rfl K15.out rfl Try.underlying89 rfl info_note rfl ?_)
    | (have _t := tp5; go_at_call 83; refine (F5.out _).mono ?_; rintro e w15 ⟨rfl, hb15⟩; replace K5 := Lib.hid (K5.out.below hb15); replace K13 := Lib.hid (K13.out.below hb15); replace K14 := Lib.hid (K14.out.below hb15); replace K15 := Lib.hid (K15.out.below hb15); replace HB := Lib.hid (below_ext HB.out hb15); have hz15 := hb15.size; clear hb15; have tp6 : True := trivial; clear _t tp5)
    | (have _t := tp6; go_at_call 85; refine (lives_any _).mono ?_; rintro e w16 ⟨rfl, hb16⟩; replace K5 := Lib.hid (K5.out.below hb16); replace K13 := Lib.hid (K13.out.below hb16); replace K14 := Lib.hid (K14.out.below hb16); replace K15 := Lib.hid (K15.out.below hb16); replace HB := Lib.hid (below_ext HB.out hb16); have hz16 := hb16.size; clear hb16; have tp7 : True := trivial; clear _t tp6))
  all_goals
    go_ret
    first | exact ⟨rfl, HB.out⟩ | exact ⟨ret_b (by simp), HB.out⟩
end Go.Proofs.Ytdchcggllcgokaa.T

namespace Go.Proofs.Ytdchcggllcgokaa.T
open Go.RowKit Go.Proofs.Ytdchcggllcgokaa.L Go.Proofs.Ytdchcggllcgokaa.U Go.Proofs.Ytdchcggllcgokaa.R Go.Proofs.Ytdchcggllcgokaa.E Go.Proofs.YtdchcggllcgokaaW.PrintWords
set_option linter.unusedVariables false
set_option linter.unusedSimpArgs false

theorem u8_nat {n : Int} (h : (Lit.int .u8 n).wf = true) : ∃ k : Nat, n = k ∧ k < 256 := by
  obtain ⟨h1, h2⟩ := bounds_u8 h
  exact ⟨n.toNat, by omega, by omega⟩
theorem u32_nat {n : Int} (h : (Lit.int .u32 n).wf = true) : ∃ k : Nat, n = k ∧ k < 4294967296 := by
  obtain ⟨h1, h2⟩ := bounds_u32 h
  exact ⟨n.toNat, by omega, by omega⟩
theorem i64_bounds {n : Int} (h : (Lit.int .i64 n).wf = true) : -9223372036854775808 ≤ n ∧ n ≤ 9223372036854775807 := by
  obtain ⟨h1, h2⟩ := bounds_i64 h
  exact ⟨by omega, by omega⟩
theorem beq_zero (n : Nat) : ((n : Int) == 0) = decide (n = 0) := by rw [Bool.eq_iff_iff]; simp
theorem gotN_back {xs : List Int} (hl : xs.length = 64) (hw : Wf8 xs) {s a c m : Nat} (h : gotN xs = ((s, a, c, m), 0)) : mayN s a c = true ∧ sealed s (nbody a c m) = xs ∧ s < 18446744073709551616 ∧ a < 18446744073709551616 ∧ m < 4294967296 := by
  have hn := gots_lt hw
  obtain ⟨⟨n, D, k⟩, hg⟩ : ∃ q, gots xs = q := ⟨_, rfl⟩
  by_cases h0 : k = 0
  · subst h0
    have hsn := same_note hl hw hg
    obtain ⟨_, hDi, _⟩ := reseal hl hw hg
    have hDw : Wf8 D := by rw [hDi]; exact inner_wf hw
    rw [hg] at hn
    rw [gotN_ok hg] at h
    split at h
    · rename_i hc
      have e1 : n = s := congrArg (fun z => z.1.1) h
      have e2 : fA D = a := congrArg (fun z => z.1.2.1) h
      have e3 : fC D = c := congrArg (fun z => z.1.2.2.1) h
      have e4 : fM D = m := congrArg (fun z => z.1.2.2.2) h
      subst e1 e2 e3 e4
      exact ⟨hc.1, hsn.2 hc.2, hn, fA_lt hDw, fM_lt hDw⟩
    · exact absurd (congrArg (fun z => z.2) h) (by simp)
  · rw [gotN_err (by rw [hg]; exact h0), hg] at h
    exact absurd (congrArg (fun z => z.2) h) h0
theorem gotN_no {xs : List Int} {q : Nat × Nat × Nat × Nat} {k : Int} (h : gotN xs = (q, k)) (hk : k ≠ 0) : q = (0, 0, 0, 0) := by
  obtain ⟨⟨n, D, j⟩, hg⟩ : ∃ q, gots xs = q := ⟨_, rfl⟩
  by_cases h0 : j = 0
  · subst h0
    rw [gotN_ok hg] at h
    split at h
    · exact absurd (congrArg (fun z => z.2) h).symm hk
    · exact (congrArg (fun z => z.1) h).symm
  · rw [gotN_err (by rw [hg]; exact h0)] at h
    exact (congrArg (fun z => z.1) h).symm
theorem back_any (s a : Nat) (c : Int) (m : Nat) (hs : s < 18446744073709551616) (ha : a < 18446744073709551616) (hc : -9223372036854775808 ≤ c ∧ c ≤ 9223372036854775807) (hm : m < 4294967296) (xs : List Int) (hl : xs.length = 64) (hw : Wf8 xs) (w : World) :
    Calls Try.prog 22 #[nagg s a c m, blk xs] w fun e w' => e = .returned (.bool true) ∧ Below w.heap.size w w' := by
  obtain ⟨⟨⟨s1, a1, c1, m1⟩, k1⟩, h1⟩ : ∃ r, gotN xs = r := ⟨_, rfl⟩
  have G := get_e hl hw h1
  have hq : k1 = 0 → mayN s1 a1 c1 = true ∧ ∀ w : World, Calls Try.prog 77 #[nagg s1 a1 (c1 : Int) m1] w fun e w' => e = .returned (.tuple #[blk xs, .int .i64 0]) ∧ Below w.heap.size w w' := fun hk => by
    subst hk
    obtain ⟨b1, b2, b3, b4, b5⟩ := gotN_back hl hw h1
    have b6 := may_ok b1
    refine ⟨b1, fun w => ?_⟩
    have h := Put_any s1 a1 (c1 : Int) m1 b3 b4 ⟨by omega, by omega⟩ b5 w
    rw [note_ok b1, b2] at h
    exact h
  have hz : k1 ≠ 0 → s1 = 0 ∧ a1 = 0 ∧ c1 = 0 ∧ m1 = 0 := fun hk => by
    have h := gotN_no h1 hk
    exact ⟨congrArg (fun z => z.1) h, congrArg (fun z => z.2.1) h, congrArg (fun z => z.2.2.1) h, congrArg (fun z => z.2.2.2) h⟩
  clear h1
  by_cases hM : mayN s a c = true
  · have hM' := may_ok hM
    obtain ⟨c, rfl⟩ : ∃ d : Nat, c = d := ⟨c.toNat, by omega⟩
    have hp := fun w => Put_any s a (c : Int) m hs ha hc hm w
    rw [note_ok hM] at hp
    have X1 : (sealed s (nbody a c m)).length = 64 := sealed_length (by rw [nbody_length]; omega)
    have Xw : Wf8 (sealed s (nbody a c m)) := sealed_wf s (nbody_wf a c m)
    have g := get_e X1 Xw (gotN_put hM hs ha hm)
    generalize sealed s (nbody a c m) = X at *
    by_cases hk : k1 = 0
    · have hq2 := (hq hk).2
      subst hk
      exact Back_A1 s a c m X (Lib.hid X1) xs (Lib.hid hl) s1 a1 c1 m1 1 rfl (Lib.hid hp) (Lib.hid g) (Lib.hid G) (Lib.hid hq2) w
    · obtain ⟨rfl, rfl, rfl, rfl⟩ := hz hk
      exact Back_A2 s a c m X (Lib.hid X1) xs (Lib.hid hl) 0 0 0 0 k1 (bne_iff_ne.2 hk) (Lib.hid hp) (Lib.hid g) (Lib.hid G) w
  · have hM' : mayN s a c = false := by simpa using hM
    have hp := fun w => Put_any s a c m hs ha hc hm w
    rw [notes, if_neg hM] at hp
    have hv := fun w => May_any s a c m hs ha hc hm w
    rw [hM'] at hv
    by_cases hk : k1 = 0
    · have hq2 := (hq hk).2
      subst hk
      exact Back_B1 s a c m xs (Lib.hid hl) xs (Lib.hid hl) s1 a1 c1 m1 1 rfl (Lib.hid hp) (Lib.hid hv) (Lib.hid G) (Lib.hid hq2) w
    · obtain ⟨rfl, rfl, rfl, rfl⟩ := hz hk
      exact Back_B2 s a c m xs (Lib.hid hl) xs (Lib.hid hl) 0 0 0 0 k1 (bne_iff_ne.2 hk) (Lib.hid hp) (Lib.hid hv) (Lib.hid G) w
theorem back_any' (s : Int) (ws : (Lit.int .u64 s).wf = true) (a : Int) (wa : (Lit.int .u64 a).wf = true) (c : Int) (wc : (Lit.int .i64 c).wf = true) (m : Int) (wm : (Lit.int .u32 m).wf = true) (l : List Int) (hl : l.length = 64) (hw : ∀ x ∈ l, (Lit.int .u8 x).wf = true) (w : World) :
    Calls Try.prog 22 #[.agg #[.int .u64 s, .int .u64 a, .int .i64 c, .int .u32 m], blk l] w fun e w' => e = .returned (.bool true) ∧ Below w.heap.size w w' := by
  obtain ⟨s, rfl, hs⟩ := u64_nat ws
  obtain ⟨a, rfl, ha⟩ := u64_nat wa
  obtain ⟨m, rfl, hm⟩ := u32_nat wm
  exact back_any s a c m hs ha (i64_bounds wc) hm l hl hw w
/-- note.Follows, a first note that may be -/
theorem fol (s a c m : Nat) (h1 : 1 ≤ s) (h2 : s ≤ 4611686018427387904) (h3 : a ≤ 4611686018427387904) (h4 : 1 ≤ c) (h5 : c ≤ 32) (hm : m < 4294967296) (u b : Nat) (d : Int) (k : Nat) (hu : u < 18446744073709551616) (hb : b < 18446744073709551616) (hd : -9223372036854775808 ≤ d ∧ d ≤ 9223372036854775807) (hk : k < 4294967296) (z : Bool) (hz : z = (mayN u b d && decide (u = s + 1 ∧ b = a + ((c + 15) / 16 + c)))) (w : World) :
    Calls Try.prog 83 #[nagg s a (c : Int) m, nagg u b d k] w fun e w' => e = .returned (.bool z) ∧ Below w.heap.size w w' := by
  have m1 := fun w => May_any s a (c : Int) m (by omega) (by omega) ⟨by omega, by omega⟩ hm w
  rw [show mayN s a (c : Int) = true by rw [mayN, decide_eq_true_iff]; omega] at m1
  have m2 := fun w => May_any u b d k hu hb hd hk w
  subst hz
  by_cases hM : mayN u b d = true
  · rw [hM] at m2 ⊢
    have h := Follows_ok s a c m h1 h2 h3 h4 h5 u b d k (Lib.hid m1) (Lib.hid m2) w
    rw [Bool.true_and]
    exact h
  · have hM' : mayN u b d = false := by simpa using hM
    rw [hM'] at m2 ⊢
    exact Follows_no s a c m h1 h2 h3 h4 h5 u b d k (Lib.hid m1) (Lib.hid m2) w
theorem follows_any (s a : Nat) (c : Int) (m : Nat) (hs : s < 18446744073709551616) (ha : a < 18446744073709551616) (hc : -9223372036854775808 ≤ c ∧ c ≤ 9223372036854775807) (hm : m < 4294967296) (p q mr on : Nat) (hp : p < 256) (hq : q < 4294967296) (hr : mr < 256) (ho : on < 256) (w : World) :
    Calls Try.prog 23 #[nagg s a c m, .int .u8 (p : Int), .int .u32 (q : Int), .int .u8 (mr : Int), .int .u8 (on : Int)] w fun e w' => e = .returned (.bool true) ∧ Below w.heap.size w w' := by
  have hv := fun w => May_any s a c m hs ha hc hm w
  by_cases hM : mayN s a c = true
  · rw [hM] at hv
    have hM' := may_ok hM
    by_cases h1 : 4611686018427387904 ≤ s
    · exact Fol_n1 s a c m p q mr on hs ha h1 (Lib.hid hv) w
    by_cases h2 : 2305843009213693952 < a
    · exact Fol_n2 s a c m p q mr on hs ha (by omega) h2 (Lib.hid hv) w
    obtain ⟨c, rfl⟩ : ∃ d : Nat, c = d := ⟨c.toNat, by omega⟩
    clear hM
    have hk : ((1 + p % 32 : Nat) : Int) = 1 + (p : Int) % 32 := by omega
    by_cases h6 : c ≤ 16
    · have hz : ((a + (c + 1) : Nat) : Int) = (a : Int) + ((c : Int) + 1) := by omega
      have f1 := fun w => fol s a c m (by omega) (by omega) (by omega) (by omega) (by omega) hm (s + 1) (a + (c + 1)) ((1 + p % 32 : Nat) : Int) q (by omega) (by omega) ⟨by omega, by omega⟩ hq true (by simp [mayN]; omega) w
      have f2 := fun w => fol s a c m (by omega) (by omega) (by omega) (by omega) (by omega) hm s a (c : Int) m (by omega) (by omega) ⟨by omega, by omega⟩ hm false (by simp) w
      have f3 := fun w => fol (s + 1) (a + (c + 1)) (1 + p % 32) q (by omega) (by omega) (by omega) (by omega) (by omega) hq s a (c : Int) m (by omega) (by omega) ⟨by omega, by omega⟩ hm false (by simp; omega) w
      have f4 := fun w => fol s a c m (by omega) (by omega) (by omega) (by omega) (by omega) hm (s + 1) (a + (c + 1) + mr) ((1 + p % 32 : Nat) : Int) q (by omega) (by omega) ⟨by omega, by omega⟩ hq (decide (mr = 0)) (by rw [Bool.eq_iff_iff]; simp [mayN]; omega) w
      have f5 := fun w => fol s a c m (by omega) (by omega) (by omega) (by omega) (by omega) hm (s + 1 + on) (a + (c + 1)) ((1 + p % 32 : Nat) : Int) q (by omega) (by omega) ⟨by omega, by omega⟩ hq (decide (on = 0)) (by rw [Bool.eq_iff_iff]; simp [mayN]; omega) w
      simp only [hk, Int.natCast_add] at f1 f2 f3 f4 f5
      exact Fol_y0 s a c m p q mr on (by omega) (by omega) (by omega) (by omega) (by omega) hp hq hr ho (decide (mr = 0)) (decide (on = 0)) (beq_zero mr) (beq_zero on) (Lib.hid hv) (Lib.hid f1) (Lib.hid f2) (Lib.hid f3) (Lib.hid f4) (Lib.hid f5) w
    · have hz : ((a + (c + 1 + 1) : Nat) : Int) = (a : Int) + ((c : Int) + 1 + 1) := by omega
      have f1 := fun w => fol s a c m (by omega) (by omega) (by omega) (by omega) (by omega) hm (s + 1) (a + (c + 1 + 1)) ((1 + p % 32 : Nat) : Int) q (by omega) (by omega) ⟨by omega, by omega⟩ hq true (by simp [mayN]; omega) w
      have f2 := fun w => fol s a c m (by omega) (by omega) (by omega) (by omega) (by omega) hm s a (c : Int) m (by omega) (by omega) ⟨by omega, by omega⟩ hm false (by simp) w
      have f3 := fun w => fol (s + 1) (a + (c + 1 + 1)) (1 + p % 32) q (by omega) (by omega) (by omega) (by omega) (by omega) hq s a (c : Int) m (by omega) (by omega) ⟨by omega, by omega⟩ hm false (by simp; omega) w
      have f4 := fun w => fol s a c m (by omega) (by omega) (by omega) (by omega) (by omega) hm (s + 1) (a + (c + 1 + 1) + mr) ((1 + p % 32 : Nat) : Int) q (by omega) (by omega) ⟨by omega, by omega⟩ hq (decide (mr = 0)) (by rw [Bool.eq_iff_iff]; simp [mayN]; omega) w
      have f5 := fun w => fol s a c m (by omega) (by omega) (by omega) (by omega) (by omega) hm (s + 1 + on) (a + (c + 1 + 1)) ((1 + p % 32 : Nat) : Int) q (by omega) (by omega) ⟨by omega, by omega⟩ hq (decide (on = 0)) (by rw [Bool.eq_iff_iff]; simp [mayN]; omega) w
      simp only [hk, Int.natCast_add] at f1 f2 f3 f4 f5
      exact Fol_y1 s a c m p q mr on (by omega) (by omega) (by omega) (by omega) (by omega) hp hq hr ho (decide (mr = 0)) (decide (on = 0)) (beq_zero mr) (beq_zero on) (Lib.hid hv) (Lib.hid f1) (Lib.hid f2) (Lib.hid f3) (Lib.hid f4) (Lib.hid f5) w
  · rw [show mayN s a c = false by simpa using hM] at hv
    exact Fol_n0 s a c m p q mr on hs ha (Lib.hid hv) w
theorem follows_any' (s : Int) (ws : (Lit.int .u64 s).wf = true) (a : Int) (wa : (Lit.int .u64 a).wf = true) (c : Int) (wc : (Lit.int .i64 c).wf = true) (m : Int) (wm : (Lit.int .u32 m).wf = true) (p : Int) (wp : (Lit.int .u8 p).wf = true) (q : Int) (wq : (Lit.int .u32 q).wf = true) (r : Int) (wr : (Lit.int .u8 r).wf = true) (o : Int) (wo : (Lit.int .u8 o).wf = true) (w : World) :
    Calls Try.prog 23 #[.agg #[.int .u64 s, .int .u64 a, .int .i64 c, .int .u32 m], .int .u8 p, .int .u32 q, .int .u8 r, .int .u8 o] w fun e w' => e = .returned (.bool true) ∧ Below w.heap.size w w' := by
  obtain ⟨s, rfl, hs⟩ := u64_nat ws
  obtain ⟨a, rfl, ha⟩ := u64_nat wa
  obtain ⟨m, rfl, hm⟩ := u32_nat wm
  obtain ⟨p, rfl, hp⟩ := u8_nat wp
  obtain ⟨q, rfl, hq⟩ := u32_nat wq
  obtain ⟨r, rfl, hr⟩ := u8_nat wr
  obtain ⟨o, rfl, ho⟩ := u8_nat wo
  exact follows_any s a c m hs ha (i64_bounds wc) hm p q r o hp hq hr ho w
end Go.Proofs.Ytdchcggllcgokaa.T

namespace Go.Proofs.Ytdchcggllcgokaa.T
open Go.RowKit Go.Proofs.Ytdchcggllcgokaa.L Go.Proofs.Ytdchcggllcgokaa.U Go.Proofs.Ytdchcggllcgokaa.R Go.Proofs.Ytdchcggllcgokaa.E Go.Proofs.YtdchcggllcgokaaW.PrintWords
set_option linter.unusedVariables false
set_option linter.unusedSimpArgs false
set_option maxRecDepth 100000 in
set_option maxHeartbeats 2000000 in
theorem rFol_1 (s a : Nat) (c : Int) (m : Nat) (u b : Nat) (d : Int) (k : Nat) (z : Nat) (hz : z ≤ 34) (h1 : s < 18446744073709551616) (h2 : a < 18446744073709551616) (hu : u < 18446744073709551616) (hv : b < 18446744073709551616) 
    (M1 : Hid (∀ w : World, Calls Try.prog 80 #[nagg s a c m] w fun e w' => e = .returned (.bool false) ∧ Below w.heap.size w w')) (w : World) :
    Calls Try.prog 84 #[nagg s a c m, nagg u b d k] w fun e w' => e = .returned (.bool false) ∧ Below w.heap.size w w' := by
  have HB := Lib.hid (Below.refl w.heap.size w)
  have tok0 : True := trivial
  go_enter Try.func84, Try.ntmps84
  go_wp2_with (first
    | (go_skip)
    | (refine F.rowBox 89 (.tmp 0) rfl rfl rfl ?_; intro w1 hk hb1 hz1; replace HB := Lib.hid (below_ext HB.out hb1); have K2 := Lib.hid hk; clear hk hb1)
    | (refine F.rowBox 89 (.tmp 1) rfl rfl rfl ?_; intro w2 hk hb2 hz2; replace K2 := Lib.hid (K2.out.below hb2); replace HB := Lib.hid (below_ext HB.out hb2); have K3 := Lib.hid hk; clear hk hb2))
  have qK2 := K2.out.later
  have qK3 := K3.out.later
  have tq0 : True := trivial
  refine wp_region_cls (fun w9 => ∃ x : Later w2, w9 = x.w) (by kernel_rfl) (by kernel_rfl) (Later.drew _) ?_
  repeat (first
    | go_big_quiet_skip
    | (refine qRowLoad rfl 89 (.tmp 2) rfl qK2 rfl Try.underlying89 rfl info_note ?_; simp only [Act.put, List.setIfInBounds_toArray, List.set_cons_zero, List.set_cons_succ])
    | (refine qRowLoad rfl 89 (.tmp 3) rfl qK3 rfl Try.underlying89 rfl info_note ?_; simp only [Act.put, List.setIfInBounds_toArray, List.set_cons_zero, List.set_cons_succ])
    | (refine qRowCell rfl _ (.tmp 12) rfl (o := 0) qK3 rfl rfl agg_u64 ?_; simp only [Act.put, List.setIfInBounds_toArray, List.set_cons_zero, List.set_cons_succ])
    | (refine qRowCell rfl _ (.tmp 14) rfl (o := 0) qK2 rfl rfl agg_u64 ?_; simp only [Act.put, List.setIfInBounds_toArray, List.set_cons_zero, List.set_cons_succ])
    | (refine qRowCell rfl _ (.tmp 20) rfl (o := 1) qK3 rfl rfl agg_u64 ?_; simp only [Act.put, List.setIfInBounds_toArray, List.set_cons_zero, List.set_cons_succ])
    | (refine qRowCell rfl _ (.tmp 22) rfl (o := 1) qK2 rfl rfl agg_u64 ?_; simp only [Act.put, List.setIfInBounds_toArray, List.set_cons_zero, List.set_cons_succ])
    | (refine qRowCell rfl _ (.tmp 24) rfl (o := 2) qK2 rfl rfl agg_int ?_; simp only [Act.put, List.setIfInBounds_toArray, List.set_cons_zero, List.set_cons_succ])
    | (have _t := tq0; refine qAt 80 rfl ?_; go_big_quiet_want; go_big_quiet_op; apply Exists.intro; refine ⟨fun x => ?_, ?_⟩; (· refine (M1.out _).mono ?_; rintro e x2 ⟨rfl, hb⟩; exact ⟨rfl, x.ext hb⟩); go_big_quiet_on; have tq1 : True := trivial; clear _t tq0)
    | (go_big_quiet_want; go_big_quiet_op; go_big_quiet_on))
  refine wpQuiet_nil ?_
  rintro w9 ⟨⟨x9, h9⟩, rfl⟩
  have hb9 := below_ext HB.out h9
  clear h9
  go_wp2
  go_ret
  exact ⟨rfl, hb9⟩
set_option maxRecDepth 100000 in
set_option maxHeartbeats 2000000 in
theorem rFol_2 (s a : Nat) (c : Int) (m : Nat) (u b : Nat) (d : Int) (k : Nat) (z : Nat) (hz : z ≤ 34) (h1 : s < 18446744073709551615) (h2 : a < 9223372036854775808) (hu : u < 18446744073709551616) (hv : b < 18446744073709551616) 
    (M1 : Hid (∀ w : World, Calls Try.prog 80 #[nagg s a c m] w fun e w' => e = .returned (.bool true) ∧ Below w.heap.size w w'))
    (M2 : Hid (∀ w : World, Calls Try.prog 80 #[nagg u b d k] w fun e w' => e = .returned (.bool false) ∧ Below w.heap.size w w')) (w : World) :
    Calls Try.prog 84 #[nagg s a c m, nagg u b d k] w fun e w' => e = .returned (.bool false) ∧ Below w.heap.size w w' := by
  have HB := Lib.hid (Below.refl w.heap.size w)
  have tok0 : True := trivial
  go_enter Try.func84, Try.ntmps84
  go_wp2_with (first
    | (go_skip)
    | (refine F.rowBox 89 (.tmp 0) rfl rfl rfl ?_; intro w1 hk hb1 hz1; replace HB := Lib.hid (below_ext HB.out hb1); have K2 := Lib.hid hk; clear hk hb1)
    | (refine F.rowBox 89 (.tmp 1) rfl rfl rfl ?_; intro w2 hk hb2 hz2; replace K2 := Lib.hid (K2.out.below hb2); replace HB := Lib.hid (below_ext HB.out hb2); have K3 := Lib.hid hk; clear hk hb2))
  have qK2 := K2.out.later
  have qK3 := K3.out.later
  have tq0 : True := trivial
  refine wp_region_cls (fun w9 => ∃ x : Later w2, w9 = x.w) (by kernel_rfl) (by kernel_rfl) (Later.drew _) ?_
  repeat (first
    | go_big_quiet_skip
    | (refine qRowLoad rfl 89 (.tmp 2) rfl qK2 rfl Try.underlying89 rfl info_note ?_; simp only [Act.put, List.setIfInBounds_toArray, List.set_cons_zero, List.set_cons_succ])
    | (refine qRowLoad rfl 89 (.tmp 3) rfl qK3 rfl Try.underlying89 rfl info_note ?_; simp only [Act.put, List.setIfInBounds_toArray, List.set_cons_zero, List.set_cons_succ])
    | (refine qRowCell rfl _ (.tmp 12) rfl (o := 0) qK3 rfl rfl agg_u64 ?_; simp only [Act.put, List.setIfInBounds_toArray, List.set_cons_zero, List.set_cons_succ])
    | (refine qRowCell rfl _ (.tmp 14) rfl (o := 0) qK2 rfl rfl agg_u64 ?_; simp only [Act.put, List.setIfInBounds_toArray, List.set_cons_zero, List.set_cons_succ])
    | (refine qRowCell rfl _ (.tmp 20) rfl (o := 1) qK3 rfl rfl agg_u64 ?_; simp only [Act.put, List.setIfInBounds_toArray, List.set_cons_zero, List.set_cons_succ])
    | (refine qRowCell rfl _ (.tmp 22) rfl (o := 1) qK2 rfl rfl agg_u64 ?_; simp only [Act.put, List.setIfInBounds_toArray, List.set_cons_zero, List.set_cons_succ])
    | (refine qRowCell rfl _ (.tmp 24) rfl (o := 2) qK2 rfl rfl agg_int ?_; simp only [Act.put, List.setIfInBounds_toArray, List.set_cons_zero, List.set_cons_succ])
    | (have _t := tq0; refine qAt 80 rfl ?_; go_big_quiet_want; go_big_quiet_op; apply Exists.intro; refine ⟨fun x => ?_, ?_⟩; (· refine (M1.out _).mono ?_; rintro e x2 ⟨rfl, hb⟩; exact ⟨rfl, x.ext hb⟩); go_big_quiet_on; have tq1 : True := trivial; clear _t tq0)
    | (have _t := tq1; refine qAt 80 rfl ?_; go_big_quiet_want; go_big_quiet_op; apply Exists.intro; refine ⟨fun x => ?_, ?_⟩; (· refine (M2.out _).mono ?_; rintro e x2 ⟨rfl, hb⟩; exact ⟨rfl, x.ext hb⟩); go_big_quiet_on; have tq2 : True := trivial; clear _t tq1)
    | (go_big_quiet_want; go_big_quiet_op; go_big_quiet_on))
  refine wpQuiet_nil ?_
  rintro w9 ⟨⟨x9, h9⟩, rfl⟩
  have hb9 := below_ext HB.out h9
  clear h9
  go_wp2
  go_ret
  exact ⟨rfl, hb9⟩
set_option maxRecDepth 100000 in
set_option maxHeartbeats 2000000 in
theorem rFol_3 (s a : Nat) (c : Int) (m : Nat) (u b : Nat) (d : Int) (k : Nat) (z : Nat) (hz : z ≤ 34) (h1 : s < 18446744073709551615) (h2 : a < 9223372036854775808) (hu : u < 18446744073709551616) (hv : b < 18446744073709551616) (e1 : ((u : Int) == (s : Int) + 1) = false)
    (M1 : Hid (∀ w : World, Calls Try.prog 80 #[nagg s a c m] w fun e w' => e = .returned (.bool true) ∧ Below w.heap.size w w'))
    (M2 : Hid (∀ w : World, Calls Try.prog 80 #[nagg u b d k] w fun e w' => e = .returned (.bool true) ∧ Below w.heap.size w w')) (w : World) :
    Calls Try.prog 84 #[nagg s a c m, nagg u b d k] w fun e w' => e = .returned (.bool false) ∧ Below w.heap.size w w' := by
  have HB := Lib.hid (Below.refl w.heap.size w)
  have tok0 : True := trivial
  go_enter Try.func84, Try.ntmps84
  go_wp2_with (first
    | (go_skip)
    | (refine F.rowBox 89 (.tmp 0) rfl rfl rfl ?_; intro w1 hk hb1 hz1; replace HB := Lib.hid (below_ext HB.out hb1); have K2 := Lib.hid hk; clear hk hb1)
    | (refine F.rowBox 89 (.tmp 1) rfl rfl rfl ?_; intro w2 hk hb2 hz2; replace K2 := Lib.hid (K2.out.below hb2); replace HB := Lib.hid (below_ext HB.out hb2); have K3 := Lib.hid hk; clear hk hb2))
  have qK2 := K2.out.later
  have qK3 := K3.out.later
  have tq0 : True := trivial
  refine wp_region_cls (fun w9 => ∃ x : Later w2, w9 = x.w) (by kernel_rfl) (by kernel_rfl) (Later.drew _) ?_
  repeat (first
    | go_big_quiet_skip
    | (refine qRowLoad rfl 89 (.tmp 2) rfl qK2 rfl Try.underlying89 rfl info_note ?_; simp only [Act.put, List.setIfInBounds_toArray, List.set_cons_zero, List.set_cons_succ])
    | (refine qRowLoad rfl 89 (.tmp 3) rfl qK3 rfl Try.underlying89 rfl info_note ?_; simp only [Act.put, List.setIfInBounds_toArray, List.set_cons_zero, List.set_cons_succ])
    | (refine qRowCell rfl _ (.tmp 12) rfl (o := 0) qK3 rfl rfl agg_u64 ?_; simp only [Act.put, List.setIfInBounds_toArray, List.set_cons_zero, List.set_cons_succ])
    | (refine qRowCell rfl _ (.tmp 14) rfl (o := 0) qK2 rfl rfl agg_u64 ?_; simp only [Act.put, List.setIfInBounds_toArray, List.set_cons_zero, List.set_cons_succ])
    | (refine qRowCell rfl _ (.tmp 20) rfl (o := 1) qK3 rfl rfl agg_u64 ?_; simp only [Act.put, List.setIfInBounds_toArray, List.set_cons_zero, List.set_cons_succ])
    | (refine qRowCell rfl _ (.tmp 22) rfl (o := 1) qK2 rfl rfl agg_u64 ?_; simp only [Act.put, List.setIfInBounds_toArray, List.set_cons_zero, List.set_cons_succ])
    | (refine qRowCell rfl _ (.tmp 24) rfl (o := 2) qK2 rfl rfl agg_int ?_; simp only [Act.put, List.setIfInBounds_toArray, List.set_cons_zero, List.set_cons_succ])
    | (have _t := tq0; refine qAt 80 rfl ?_; go_big_quiet_want; go_big_quiet_op; apply Exists.intro; refine ⟨fun x => ?_, ?_⟩; (· refine (M1.out _).mono ?_; rintro e x2 ⟨rfl, hb⟩; exact ⟨rfl, x.ext hb⟩); go_big_quiet_on; have tq1 : True := trivial; clear _t tq0)
    | (have _t := tq1; refine qAt 80 rfl ?_; go_big_quiet_want; go_big_quiet_op; apply Exists.intro; refine ⟨fun x => ?_, ?_⟩; (· refine (M2.out _).mono ?_; rintro e x2 ⟨rfl, hb⟩; exact ⟨rfl, x.ext hb⟩); go_big_quiet_on; have tq2 : True := trivial; clear _t tq1)
    | (go_big_quiet_want; go_big_quiet_op; go_big_quiet_on))
  refine wpQuiet_nil ?_
  rintro w9 ⟨⟨x9, h9⟩, rfl⟩
  have hb9 := below_ext HB.out h9
  clear h9
  go_wp2
  go_ret
  exact ⟨rfl, hb9⟩
set_option maxRecDepth 100000 in
set_option maxHeartbeats 2000000 in
theorem rFol_4 (s a : Nat) (c : Int) (m : Nat) (u b : Nat) (d : Int) (k : Nat) (z : Nat) (hz : z ≤ 34) (h1 : s < 18446744073709551615) (h2 : a < 9223372036854775808) (hu : u < 18446744073709551616) (hv : b < 18446744073709551616) (e1 : ((u : Int) == (s : Int) + 1) = true) (q : Bool) (e2 : ((b : Int) == (a : Int) + (z : Int)) = q)
    (M1 : Hid (∀ w : World, Calls Try.prog 80 #[nagg s a c m] w fun e w' => e = .returned (.bool true) ∧ Below w.heap.size w w'))
    (M2 : Hid (∀ w : World, Calls Try.prog 80 #[nagg u b d k] w fun e w' => e = .returned (.bool true) ∧ Below w.heap.size w w'))
    (SZ : Hid (∀ w : World, Calls Try.prog 50 #[.int .i64 c] w fun e w' => e = .returned (.int .i64 (z : Int)) ∧ Below w.heap.size w w')) (w : World) :
    Calls Try.prog 84 #[nagg s a c m, nagg u b d k] w fun e w' => e = .returned (.bool q) ∧ Below w.heap.size w w' := by
  have HB := Lib.hid (Below.refl w.heap.size w)
  have tok0 : True := trivial
  go_enter Try.func84, Try.ntmps84
  go_wp2_with (first
    | (go_skip)
    | (refine F.rowBox 89 (.tmp 0) rfl rfl rfl ?_; intro w1 hk hb1 hz1; replace HB := Lib.hid (below_ext HB.out hb1); have K2 := Lib.hid hk; clear hk hb1)
    | (refine F.rowBox 89 (.tmp 1) rfl rfl rfl ?_; intro w2 hk hb2 hz2; replace K2 := Lib.hid (K2.out.below hb2); replace HB := Lib.hid (below_ext HB.out hb2); have K3 := Lib.hid hk; clear hk hb2))
  have qK2 := K2.out.later
  have qK3 := K3.out.later
  have tq0 : True := trivial
  refine wp_region_cls (fun w9 => ∃ x : Later w2, w9 = x.w) (by kernel_rfl) (by kernel_rfl) (Later.drew _) ?_
  repeat (first
    | go_big_quiet_skip
    | (refine qRowLoad rfl 89 (.tmp 2) rfl qK2 rfl Try.underlying89 rfl info_note ?_; simp only [Act.put, List.setIfInBounds_toArray, List.set_cons_zero, List.set_cons_succ])
    | (refine qRowLoad rfl 89 (.tmp 3) rfl qK3 rfl Try.underlying89 rfl info_note ?_; simp only [Act.put, List.setIfInBounds_toArray, List.set_cons_zero, List.set_cons_succ])
    | (refine qRowCell rfl _ (.tmp 12) rfl (o := 0) qK3 rfl rfl agg_u64 ?_; simp only [Act.put, List.setIfInBounds_toArray, List.set_cons_zero, List.set_cons_succ])
    | (refine qRowCell rfl _ (.tmp 14) rfl (o := 0) qK2 rfl rfl agg_u64 ?_; simp only [Act.put, List.setIfInBounds_toArray, List.set_cons_zero, List.set_cons_succ])
    | (refine qRowCell rfl _ (.tmp 20) rfl (o := 1) qK3 rfl rfl agg_u64 ?_; simp only [Act.put, List.setIfInBounds_toArray, List.set_cons_zero, List.set_cons_succ])
    | (refine qRowCell rfl _ (.tmp 22) rfl (o := 1) qK2 rfl rfl agg_u64 ?_; simp only [Act.put, List.setIfInBounds_toArray, List.set_cons_zero, List.set_cons_succ])
    | (refine qRowCell rfl _ (.tmp 24) rfl (o := 2) qK2 rfl rfl agg_int ?_; simp only [Act.put, List.setIfInBounds_toArray, List.set_cons_zero, List.set_cons_succ])
    | (have _t := tq0; refine qAt 80 rfl ?_; go_big_quiet_want; go_big_quiet_op; apply Exists.intro; refine ⟨fun x => ?_, ?_⟩; (· refine (M1.out _).mono ?_; rintro e x2 ⟨rfl, hb⟩; exact ⟨rfl, x.ext hb⟩); go_big_quiet_on; have tq1 : True := trivial; clear _t tq0)
    | (have _t := tq1; refine qAt 80 rfl ?_; go_big_quiet_want; go_big_quiet_op; apply Exists.intro; refine ⟨fun x => ?_, ?_⟩; (· refine (M2.out _).mono ?_; rintro e x2 ⟨rfl, hb⟩; exact ⟨rfl, x.ext hb⟩); go_big_quiet_on; have tq2 : True := trivial; clear _t tq1)
    | (have _t := tq2; refine qAt 50 rfl ?_; go_big_quiet_want; go_big_quiet_op; apply Exists.intro; refine ⟨fun x => ?_, ?_⟩; (· refine (SZ.out _).mono ?_; rintro e x2 ⟨rfl, hb⟩; exact ⟨rfl, x.ext hb⟩); go_big_quiet_on; have tq3 : True := trivial; clear _t tq2)
    | (go_big_quiet_want; go_big_quiet_op; go_big_quiet_on))
  refine wpQuiet_nil ?_
  rintro w9 ⟨⟨x9, h9⟩, rfl⟩
  have hb9 := below_ext HB.out h9
  clear h9
  go_wp2
  go_ret
  exact ⟨rfl, hb9⟩
end Go.Proofs.Ytdchcggllcgokaa.T

namespace Go.Proofs.Ytdchcggllcgokaa.T
open Go.RowKit Go.Proofs.Ytdchcggllcgokaa.L Go.Proofs.Ytdchcggllcgokaa.U Go.Proofs.Ytdchcggllcgokaa.R Go.Proofs.Ytdchcggllcgokaa.E Go.Proofs.YtdchcggllcgokaaW.PrintWords
set_option linter.unusedVariables false
set_option linter.unusedSimpArgs false
set_option maxRecDepth 100000 in
set_option maxHeartbeats 2000000 in
theorem Puts_walk (s a : Nat) (c : Int) (m : Nat) (u b : Nat) (d : Int) (k : Nat) (X : List Int) (HX : Hid (X.length = 64)) (e0 : Int) (z1 z2 : Bool) (y : Int)
    (P1 : Hid (∀ w : World, Calls Try.prog 77 #[nagg s a c m] w fun e w' => e = .returned (.tuple #[blk X, .int .i64 e0]) ∧ Below w.heap.size w w'))
    (P2 : Hid (∀ w : World, Calls Try.prog 78 #[nagg s a c m] w fun e w' => e = .returned (.tuple #[blk X, .int .i64 e0]) ∧ Below w.heap.size w w'))
    (M1 : Hid (∀ w : World, Calls Try.prog 79 #[nagg s a c m] w fun e w' => e = .returned (.bool z1) ∧ Below w.heap.size w w'))
    (M2 : Hid (∀ w : World, Calls Try.prog 80 #[nagg s a c m] w fun e w' => e = .returned (.bool z1) ∧ Below w.heap.size w w'))
    (S1 : Hid (∀ w : World, Calls Try.prog 81 #[.int .u64 (s : Int)] w fun e w' => e = .returned (.int .i64 y) ∧ Below w.heap.size w w'))
    (S2 : Hid (∀ w : World, Calls Try.prog 82 #[.int .u64 (s : Int)] w fun e w' => e = .returned (.int .i64 y) ∧ Below w.heap.size w w'))
    (F1 : Hid (∀ w : World, Calls Try.prog 83 #[nagg s a c m, nagg u b d k] w fun e w' => e = .returned (.bool z2) ∧ Below w.heap.size w w'))
    (F2 : Hid (∀ w : World, Calls Try.prog 84 #[nagg s a c m, nagg u b d k] w fun e w' => e = .returned (.bool z2) ∧ Below w.heap.size w w')) (w : World) :
    Calls Try.prog 20 #[nagg s a c m, nagg u b d k] w fun e w' => e = .returned (.bool true) ∧ Below w.heap.size w w' := by
  have HB := Lib.hid (Below.refl w.heap.size w)
  have tok0 : True := trivial
  have tp0 : True := trivial
  go_enter Try.func20, Try.ntmps20
  go_wp2_with (first
    | (go_skip)
    | (refine F.rowBox 89 (.tmp 0) rfl rfl rfl ?_; intro w1 hk hb1 hz1; replace HB := Lib.hid (below_ext HB.out hb1); have K2 := Lib.hid hk; clear hk hb1)
    | (refine F.rowBox 89 (.tmp 1) rfl rfl rfl ?_; intro w2 hk hb2 hz2; replace K2 := Lib.hid (K2.out.below hb2); replace HB := Lib.hid (below_ext HB.out hb2); have K3 := Lib.hid hk; clear hk hb2)
    | (refine F.rowLoad 89 (.tmp 2) rfl K2.out rfl Try.underlying89 rfl info_note rfl ?_)
    | (have _t := tp0; go_at_call 77; refine (P1.out _).mono ?_; rintro e w3 ⟨rfl, hb3⟩; replace K2 := Lib.hid (K2.out.below hb3); replace K3 := Lib.hid (K3.out.below hb3); replace HB := Lib.hid (below_ext HB.out hb3); have hz3 := hb3.size; clear hb3; have tp1 : True := trivial; clear _t tp0)
    | (have _t := tok0; refine F.blkAlloc rfl rfl ?_; intro w4 hk hb4 hz4; replace K2 := Lib.hid (K2.out.below hb4); replace K3 := Lib.hid (K3.out.below hb4); replace HB := Lib.hid (below_ext HB.out hb4); have K5 := Lib.hid hk; have tok1 : True := trivial; clear hk hb4 _t tok0)
    | (refine F.blkStore (.tmp 5) (.tmp 12) rfl K5.out rfl rfl HX.out rfl ?_; intro w5 hk hg; replace HB := Lib.hid (below_at HB.out hg (by omega) K5.out.lt); replace K2 := Lib.hid (K2.out.grown hg (by omega)); replace K3 := Lib.hid (K3.out.grown hg (by omega)); replace K5 := Lib.hid hk; have hz5 := hg.size; clear hk hg)
    | (have _t := tp1; go_at_call 78; refine (P2.out _).mono ?_; rintro e w6 ⟨rfl, hb6⟩; replace K2 := Lib.hid (K2.out.below hb6); replace K3 := Lib.hid (K3.out.below hb6); replace K5 := Lib.hid (K5.out.below hb6); replace HB := Lib.hid (below_ext HB.out hb6); have hz6 := hb6.size; clear hb6; have tp2 : True := trivial; clear _t tp1)
    | (have _t := tok1; refine F.blkAlloc rfl rfl ?_; intro w7 hk hb7 hz7; replace K2 := Lib.hid (K2.out.below hb7); replace K3 := Lib.hid (K3.out.below hb7); replace K5 := Lib.hid (K5.out.below hb7); replace HB := Lib.hid (below_ext HB.out hb7); have K7 := Lib.hid hk; have tok2 : True := trivial; clear hk hb7 _t tok1)
    | (refine F.blkStore (.tmp 7) (.tmp 17) rfl K7.out rfl rfl HX.out rfl ?_; intro w8 hk hg; replace HB := Lib.hid (below_at HB.out hg (by omega) K7.out.lt); replace K2 := Lib.hid (K2.out.grown hg (by omega)); replace K3 := Lib.hid (K3.out.grown hg (by omega)); replace K5 := Lib.hid (K5.out.grown hg (by omega)); replace K7 := Lib.hid hk; have hz8 := hg.size; clear hk hg))
  have qK2 := K2.out.later
  have qK3 := K3.out.later
  have qK5 := K5.out.later
  have qK7 := K7.out.later
  have tq0 : True := trivial
  refine wp_region_cls (fun w9 => ∃ x : Later w8, w9 = x.w) (by kernel_rfl) (by kernel_rfl) (Later.drew _) ?_
  repeat (first
    | go_big_quiet_skip
    | (refine qRowLoad rfl 89 (.tmp 2) rfl qK2 rfl Try.underlying89 rfl info_note ?_; simp only [Act.put, List.setIfInBounds_toArray, List.set_cons_zero, List.set_cons_succ])
    | (refine qRowLoad rfl 89 (.tmp 3) rfl qK3 rfl Try.underlying89 rfl info_note ?_; simp only [Act.put, List.setIfInBounds_toArray, List.set_cons_zero, List.set_cons_succ])
    | (refine qBlkLoad rfl (.tmp 5) rfl HX.out qK5 rfl ?_; simp only [Act.put, List.setIfInBounds_toArray, List.set_cons_zero, List.set_cons_succ])
    | (refine qBlkLoad rfl (.tmp 7) rfl HX.out qK7 rfl ?_; simp only [Act.put, List.setIfInBounds_toArray, List.set_cons_zero, List.set_cons_succ])
    | (refine qRowCell rfl _ (.tmp 35) rfl (o := 0) qK2 rfl rfl agg_u64 ?_; simp only [Act.put, List.setIfInBounds_toArray, List.set_cons_zero, List.set_cons_succ])
    | (refine qRowCell rfl _ (.tmp 38) rfl (o := 0) qK2 rfl rfl agg_u64 ?_; simp only [Act.put, List.setIfInBounds_toArray, List.set_cons_zero, List.set_cons_succ])
    | (refine qBlkEql rfl (.tmp 25) (.tmp 26) _ rfl rfl rfl HX.out HX.out true (by simp) ?_; simp only [Act.put, List.setIfInBounds_toArray, List.set_cons_zero, List.set_cons_succ])
    | (have _t := tq0; refine qAt 79 rfl ?_; go_big_quiet_want; go_big_quiet_op; apply Exists.intro; refine ⟨fun x => ?_, ?_⟩; (· refine (M1.out _).mono ?_; rintro e x2 ⟨rfl, hb⟩; exact ⟨rfl, x.ext hb⟩); go_big_quiet_on; have tq1 : True := trivial; clear _t tq0)
    | (have _t := tq1; refine qAt 80 rfl ?_; go_big_quiet_want; go_big_quiet_op; apply Exists.intro; refine ⟨fun x => ?_, ?_⟩; (· refine (M2.out _).mono ?_; rintro e x2 ⟨rfl, hb⟩; exact ⟨rfl, x.ext hb⟩); go_big_quiet_on; have tq2 : True := trivial; clear _t tq1)
    | (have _t := tq2; refine qAt 81 rfl ?_; go_big_quiet_want; go_big_quiet_op; apply Exists.intro; refine ⟨fun x => ?_, ?_⟩; (· refine (S1.out _).mono ?_; rintro e x2 ⟨rfl, hb⟩; exact ⟨rfl, x.ext hb⟩); go_big_quiet_on; have tq3 : True := trivial; clear _t tq2)
    | (have _t := tq3; refine qAt 82 rfl ?_; go_big_quiet_want; go_big_quiet_op; apply Exists.intro; refine ⟨fun x => ?_, ?_⟩; (· refine (S2.out _).mono ?_; rintro e x2 ⟨rfl, hb⟩; exact ⟨rfl, x.ext hb⟩); go_big_quiet_on; have tq4 : True := trivial; clear _t tq3)
    | (have _t := tq4; refine qAt 83 rfl ?_; go_big_quiet_want; go_big_quiet_op; apply Exists.intro; refine ⟨fun x => ?_, ?_⟩; (· refine (F1.out _).mono ?_; rintro e x2 ⟨rfl, hb⟩; exact ⟨rfl, x.ext hb⟩); go_big_quiet_on; have tq5 : True := trivial; clear _t tq4)
    | (have _t := tq5; refine qAt 84 rfl ?_; go_big_quiet_want; go_big_quiet_op; apply Exists.intro; refine ⟨fun x => ?_, ?_⟩; (· refine (F2.out _).mono ?_; rintro e x2 ⟨rfl, hb⟩; exact ⟨rfl, x.ext hb⟩); go_big_quiet_on; have tq6 : True := trivial; clear _t tq5)
    | (have _t := tq6; refine qAt 85 rfl ?_; go_big_quiet_want; go_big_quiet_op; apply Exists.intro; refine ⟨fun x => ?_, ?_⟩; (· refine (lives_any _).mono ?_; rintro e x2 ⟨rfl, hb⟩; exact ⟨rfl, x.ext hb⟩); go_big_quiet_on; have tq7 : True := trivial; clear _t tq6)
    | (go_big_quiet_want; go_big_quiet_op; go_big_quiet_on))
  refine wpQuiet_nil ?_
  rintro w9 ⟨⟨x9, h9⟩, rfl⟩
  have hb9 := below_ext HB.out h9
  clear h9
  go_wp2
  go_ret
  exact ⟨rfl, hb9⟩
theorem rfol_any (s a : Nat) (c : Int) (m : Nat) (hs : s < 18446744073709551616) (ha : a < 18446744073709551616) (hc : -9223372036854775808 ≤ c ∧ c ≤ 9223372036854775807) (hm : m < 4294967296) (u b : Nat) (d : Int) (k : Nat) (hu : u < 18446744073709551616) (hb : b < 18446744073709551616) (hd : -9223372036854775808 ≤ d ∧ d ≤ 9223372036854775807) (hk : k < 4294967296) (z : Bool) (hz : z = (mayN s a c && (mayN u b d && decide (u = s + 1 ∧ b = a + sizeN c)))) (w : World) :
    Calls Try.prog 84 #[nagg s a c m, nagg u b d k] w fun e w' => e = .returned (.bool z) ∧ Below w.heap.size w w' := by
  have m1 := fun w => rMay_any s a c m hs ha hc hm w
  have m2 := fun w => rMay_any u b d k hu hb hd hk w
  have sz : ∀ w : World, Calls Try.prog 50 #[.int .i64 c] w fun e w' => e = .returned (.int .i64 (sizeN c : Int)) ∧ Below w.heap.size w w' := fun w => (rSize_any c hc w).mono (by rintro e w' ⟨he, rfl⟩; exact ⟨he, Below.refl _ _⟩)
  by_cases hM : mayN s a c = true
  · have hM' := may_ok hM
    have h34 : sizeN c ≤ 34 := by rw [sizeN, if_pos ⟨hM'.2.2.2.1, hM'.2.2.2.2⟩]; omega
    rw [hM] at m1 hz
    by_cases hN : mayN u b d = true
    · rw [hN] at m2 hz
      by_cases hq : u = s + 1
      · have e1 : ((u : Int) == (s : Int) + 1) = true := by rw [beq_iff_eq]; omega
        have e2 : ((b : Int) == (a : Int) + (sizeN c : Int)) = z := by rw [hz, Bool.eq_iff_iff]; simp only [beq_iff_eq, Bool.true_and, decide_eq_true_eq]; omega
        exact rFol_4 s a c m u b d k (sizeN c) h34 (by omega) (by omega) hu hb e1 z e2 (Lib.hid m1) (Lib.hid m2) (Lib.hid sz) w
      · have e1 : ((u : Int) == (s : Int) + 1) = false := by rw [beq_eq_false_iff_ne]; omega
        obtain rfl : z = false := by rw [hz]; simp [hq]
        exact rFol_3 s a c m u b d k (sizeN c) h34 (by omega) (by omega) hu hb e1 (Lib.hid m1) (Lib.hid m2) w
    · have hN' : mayN u b d = false := by simpa using hN
      rw [hN'] at m2 hz
      obtain rfl : z = false := by rw [hz]; simp
      exact rFol_2 s a c m u b d k (sizeN c) h34 (by omega) (by omega) hu hb (Lib.hid m1) (Lib.hid m2) w
  · have hM' : mayN s a c = false := by simpa using hM
    rw [hM'] at m1 hz
    obtain rfl : z = false := by rw [hz]; simp
    exact rFol_1 s a c m u b d k 0 (by omega) hs ha hu hb (Lib.hid m1) w
theorem fol_any (s a : Nat) (c : Int) (m : Nat) (hs : s < 18446744073709551616) (ha : a < 18446744073709551616) (hc : -9223372036854775808 ≤ c ∧ c ≤ 9223372036854775807) (hm : m < 4294967296) (u b : Nat) (d : Int) (k : Nat) (hu : u < 18446744073709551616) (hb : b < 18446744073709551616) (hd : -9223372036854775808 ≤ d ∧ d ≤ 9223372036854775807) (hk : k < 4294967296) (z : Bool) (hz : z = (mayN s a c && (mayN u b d && decide (u = s + 1 ∧ b = a + sizeN c)))) (w : World) :
    Calls Try.prog 83 #[nagg s a c m, nagg u b d k] w fun e w' => e = .returned (.bool z) ∧ Below w.heap.size w w' := by
  by_cases hM : mayN s a c = true
  · have hM' := may_ok hM
    obtain ⟨c, rfl⟩ : ∃ d : Nat, c = d := ⟨c.toNat, by omega⟩
    refine fol s a c m (by omega) (by omega) (by omega) (by omega) (by omega) hm u b d k hu hb hd hk z ?_ w
    rw [hz, hM, Bool.true_and, sizeN, if_pos ⟨hM'.2.2.2.1, hM'.2.2.2.2⟩, Int.toNat_natCast]
  · have hM' : mayN s a c = false := by simpa using hM
    have m1 := fun w => May_any s a c m hs ha hc hm w
    rw [hM'] at m1 hz
    obtain rfl : z = false := by rw [hz]; simp
    exact Follows_unfit s a c m hs ha hc.1 hc.2 u b d k (Lib.hid m1) w
theorem notes_length (s a : Nat) (c : Int) (m : Nat) : (notes s a c m).1.length = 64 := by
  rw [notes]
  split
  · exact sealed_length (by rw [nbody_length]; omega)
  · exact zeros_length
theorem puts_any (s a : Nat) (c : Int) (m : Nat) (hs : s < 18446744073709551616) (ha : a < 18446744073709551616) (hc : -9223372036854775808 ≤ c ∧ c ≤ 9223372036854775807) (hm : m < 4294967296) (u b : Nat) (d : Int) (k : Nat) (hu : u < 18446744073709551616) (hb : b < 18446744073709551616) (hd : -9223372036854775808 ≤ d ∧ d ≤ 9223372036854775807) (hk : k < 4294967296) (w : World) :
    Calls Try.prog 20 #[nagg s a c m, nagg u b d k] w fun e w' => e = .returned (.bool true) ∧ Below w.heap.size w w' := by
  have p1 := fun w => Put_any s a c m hs ha hc hm w
  have p2 := fun w => rPut_any s a c m hs ha hc hm w
  have hl := notes_length s a c m
  generalize notes s a c m = q at p1 p2 hl
  exact Puts_walk s a c m u b d k q.1 (Lib.hid hl) q.2 _ _ _ (Lib.hid p1) (Lib.hid p2) (Lib.hid fun w => May_any s a c m hs ha hc hm w) (Lib.hid fun w => rMay_any s a c m hs ha hc hm w)
    (Lib.hid fun w => Slot_any s hs w) (Lib.hid fun w => rSlot_any s hs w) (Lib.hid fun w => fol_any s a c m hs ha hc hm u b d k hu hb hd hk _ rfl w) (Lib.hid fun w => rfol_any s a c m hs ha hc hm u b d k hu hb hd hk _ rfl w) w
theorem puts_any' (s : Int) (ws : (Lit.int .u64 s).wf = true) (a : Int) (wa : (Lit.int .u64 a).wf = true) (c : Int) (wc : (Lit.int .i64 c).wf = true) (m : Int) (wm : (Lit.int .u32 m).wf = true)
    (u : Int) (wu : (Lit.int .u64 u).wf = true) (b : Int) (wb : (Lit.int .u64 b).wf = true) (d : Int) (wd : (Lit.int .i64 d).wf = true) (k : Int) (wk : (Lit.int .u32 k).wf = true) (w : World) :
    Calls Try.prog 20 #[.agg #[.int .u64 s, .int .u64 a, .int .i64 c, .int .u32 m], .agg #[.int .u64 u, .int .u64 b, .int .i64 d, .int .u32 k]] w fun e w' => e = .returned (.bool true) ∧ Below w.heap.size w w' := by
  obtain ⟨s, rfl, hs⟩ := u64_nat ws
  obtain ⟨a, rfl, ha⟩ := u64_nat wa
  obtain ⟨m, rfl, hm⟩ := u32_nat wm
  obtain ⟨u, rfl, hu⟩ := u64_nat wu
  obtain ⟨b, rfl, hb⟩ := u64_nat wb
  obtain ⟨k, rfl, hk⟩ := u32_nat wk
  exact puts_any s a c m hs ha (i64_bounds wc) hm u b d k hu hb (i64_bounds wd) hk w
end Go.Proofs.Ytdchcggllcgokaa.T
