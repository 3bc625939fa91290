/-
  ashlarlaw10.RosterTells: true.
-/
import Derived.Test.YtdchcggllcgokaaRos20
namespace Go.Proofs.Ytdchcggllcgokaa.Q
open Go.RowKit Go.Proofs.Ytdchcggllcgokaa.L Go.Proofs.Ytdchcggllcgokaa.R Go.Proofs.YtdchcggllcgokaaW.PrintWords
set_option linter.unusedVariables false
set_option linter.unusedSimpArgs false
set_option maxRecDepth 100000 in
set_option maxHeartbeats 4000000 in
theorem Tells_walk (x y1 y2 y3 y4 y5 : Ro) (HL : Hid (x.st.length = 16)) (HY1 : Hid (y1.st.length = 16)) (HY2 : Hid (y2.st.length = 16)) (HY3 : Hid (y3.st.length = 16)) (HY4 : Hid (y4.st.length = 16)) (HY5 : Hid (y5.st.length = 16)) (i j e1 c s k e3 e4 e5 : Int) (g z h b b2 : Bool)
    (P0 : Hid (∀ w : World, Calls Try.prog 65 #[geo x.m x.s x.r] w fun e w' => e = .returned (.tuple #[ros y1, .int .i64 e1]) ∧ Below w.heap.size w w'))
    (Q0 : Hid (∀ w : World, Calls Try.prog 88 #[geo x.m x.s x.r] w fun e w' => e = .returned (.tuple #[ros y1, .int .i64 e1]) ∧ Below w.heap.size w w'))
    (P1 : Hid (∀ w : World, Calls Try.prog 89 #[ros x] w fun e w' => e = .returned (.bool z) ∧ Below w.heap.size w w'))
    (Q1 : Hid (∀ w : World, Calls Try.prog 90 #[ros x] w fun e w' => e = .returned (.bool z) ∧ Below w.heap.size w w'))
    (P2 : Hid (∀ w : World, Calls Try.prog 70 #[ros x, .int .i64 i, .int .i64 j] w fun e w' => e = .returned (.bool h) ∧ Below w.heap.size w w'))
    (Q2 : Hid (∀ w : World, Calls Try.prog 91 #[ros x, .int .i64 i, .int .i64 j] w fun e w' => e = .returned (.bool h) ∧ Below w.heap.size w w'))
    (P3 : Hid (∀ w : World, Calls Try.prog 92 #[ros x] w fun e w' => e = .returned (.int .i64 c) ∧ Below w.heap.size w w'))
    (Q3 : Hid (∀ w : World, Calls Try.prog 93 #[ros x] w fun e w' => e = .returned (.int .i64 c) ∧ Below w.heap.size w w'))
    (P4 : Hid (∀ w : World, Calls Try.prog 94 #[ros x] w fun e w' => e = .returned (.int .i64 s) ∧ Below w.heap.size w w'))
    (Q4 : Hid (∀ w : World, Calls Try.prog 95 #[ros x] w fun e w' => e = .returned (.int .i64 s) ∧ Below w.heap.size w w'))
    (P5 : Hid (∀ w : World, Calls Try.prog 68 #[ros x] w fun e w' => e = .returned (.tuple #[.int .i64 k, .bool b]) ∧ Below w.heap.size w w'))
    (Q5 : Hid (∀ w : World, Calls Try.prog 96 #[ros x] w fun e w' => e = .returned (.tuple #[.int .i64 k, .bool b]) ∧ Below w.heap.size w w'))
    (P6 : Hid (∀ w : World, Calls Try.prog 66 #[ros x, .int .i64 i] w fun e w' => e = .returned (.tuple #[ros y2, .bool b2]) ∧ Below w.heap.size w w'))
    (Q6 : Hid (∀ w : World, Calls Try.prog 97 #[ros x, .int .i64 i] w fun e w' => e = .returned (.tuple #[ros y2, .bool b2]) ∧ Below w.heap.size w w'))
    (P7 : Hid (∀ w : World, Calls Try.prog 67 #[ros x, .int .i64 i] w fun e w' => e = .returned (.tuple #[ros y3, .int .i64 e3]) ∧ Below w.heap.size w w'))
    (Q7 : Hid (∀ w : World, Calls Try.prog 98 #[ros x, .int .i64 i] w fun e w' => e = .returned (.tuple #[ros y3, .int .i64 e3]) ∧ Below w.heap.size w w'))
    (P8 : Hid (∀ w : World, Calls Try.prog 69 #[ros x] w fun e w' => e = .returned (.tuple #[ros y4, .int .i64 e4]) ∧ Below w.heap.size w w'))
    (Q8 : Hid (∀ w : World, Calls Try.prog 99 #[ros x] w fun e w' => e = .returned (.tuple #[ros y4, .int .i64 e4]) ∧ Below w.heap.size w w'))
    (P9 : Hid (∀ w : World, Calls Try.prog 100 #[ros x, .bool g] w fun e w' => e = .returned (.tuple #[ros y5, .int .i64 e5]) ∧ Below w.heap.size w w'))
    (Q9 : Hid (∀ w : World, Calls Try.prog 101 #[ros x, .bool g] w fun e w' => e = .returned (.tuple #[ros y5, .int .i64 e5]) ∧ Below w.heap.size w w'))
    (PL : Hid (∀ w : World, Calls Try.prog 71 #[] w fun e w' => e = .returned (.bool true) ∧ Below w.heap.size w w')) (w : World) : Calls Try.prog 24 #[ros x, .int .i64 i, .int .i64 j, .bool g] w fun e w' => e = .returned (.bool true) ∧ Below w.heap.size w w' := by
  have HB := Lib.hid (Below.refl w.heap.size w)
  have tok0 : True := trivial
  have tp0 : True := trivial
  go_enter Try.func24, Try.ntmps24
  go_wp2_with (first
    | (go_skip)
    | (refine rosBox (.tmp 0) rfl rfl HL.out rfl ?_; intro w1 hk hb1 hz1; replace HB := Lib.hid (below_ext HB.out hb1); have K4 := Lib.hid hk; clear hk hb1)
    | (refine geoLoad (.tmp 18) rfl K4.out rfl rfl ?_)
    | (have _t := tp0; go_at_call 65; refine (P0.out _).mono ?_; rintro e w2 ⟨rfl, hb2⟩; replace K4 := Lib.hid (K4.out.below hb2); replace HB := Lib.hid (below_ext HB.out hb2); have hz2 := hb2.size; clear hb2; have tp1 : True := trivial; clear _t tp0)
    | (have _t := tok0; refine rosAlloc rfl rfl ?_; intro w3 hk hb3 hz3; replace K4 := Lib.hid (K4.out.below hb3); replace HB := Lib.hid (below_ext HB.out hb3); have K9 := Lib.hid hk; clear hk hb3; have tok1 : True := trivial; clear _t tok0)
    | (refine rosStore (.tmp 9) (.tmp 21) rfl K9.out rfl rfl HY1.out rfl ?_; intro w4 hk hg; replace HB := Lib.hid (below_at HB.out hg (by omega) K9.out.lt); replace K4 := Lib.hid (K4.out.grown hg (by omega)); replace K9 := Lib.hid hk; have hz4 := hg.size; clear hk hg)
    | (refine geoLoad (.tmp 24) rfl K4.out rfl rfl ?_)
    | (have _t := tp1; go_at_call 88; refine (Q0.out _).mono ?_; rintro e w5 ⟨rfl, hb5⟩; replace K4 := Lib.hid (K4.out.below hb5); replace K9 := Lib.hid (K9.out.below hb5); replace HB := Lib.hid (below_ext HB.out hb5); have hz5 := hb5.size; clear hb5; have tp2 : True := trivial; clear _t tp1)
    | (have _t := tok1; refine rosAlloc rfl rfl ?_; intro w6 hk hb6 hz6; replace K4 := Lib.hid (K4.out.below hb6); replace K9 := Lib.hid (K9.out.below hb6); replace HB := Lib.hid (below_ext HB.out hb6); have K11 := Lib.hid hk; clear hk hb6; have tok2 : True := trivial; clear _t tok1)
    | (refine rosStore (.tmp 11) (.tmp 27) rfl K11.out rfl rfl HY1.out rfl ?_; intro w7 hk hg; replace HB := Lib.hid (below_at HB.out hg (by omega) K11.out.lt); replace K4 := Lib.hid (K4.out.grown hg (by omega)); replace K9 := Lib.hid (K9.out.grown hg (by omega)); replace K11 := Lib.hid hk; have hz7 := hg.size; clear hk hg))
  have qK9 := K9.out.later
  have qK11 := K11.out.later
  have qK4 := K4.out.later
  have tq0 : True := trivial
  refine wp_region_cls (fun w9 => ∃ x : Later w7, w9 = x.w) (by kernel_rfl) (by kernel_rfl) (Later.drew _) ?_
  repeat (first
    | go_big_quiet_skip
    | (refine qRosLoad (.tmp 9) rfl HY1.out qK9 rfl rfl ?_; simp only [Act.put, List.setIfInBounds_toArray, List.set_cons_zero, List.set_cons_succ])
    | (refine qRosLoad (.tmp 11) rfl HY1.out qK11 rfl rfl ?_; simp only [Act.put, List.setIfInBounds_toArray, List.set_cons_zero, List.set_cons_succ])
    | (refine qRosLoad (.tmp 4) rfl HL.out qK4 rfl rfl ?_; simp only [Act.put, List.setIfInBounds_toArray, List.set_cons_zero, List.set_cons_succ])
    | (refine quiet_val rfl _ (fun w _ => run_rosNeq (.tmp 29) (.tmp 30) _ rfl rfl rfl HY1.out HY1.out false (neR_self _) w) ?_; simp only [Act.put, List.setIfInBounds_toArray, List.set_cons_zero, List.set_cons_succ])
    | (have _t := tq0; refine qAt 89 rfl ?_; go_big_quiet_want; go_big_quiet_op; apply Exists.intro; refine ⟨fun x => ?_, ?_⟩; (· refine (P1.out _).mono ?_; rintro e x2 ⟨rfl, hb⟩; exact ⟨rfl, x.ext hb⟩); go_big_quiet_on; have tq1 : True := trivial; clear _t tq0)
    | (have _t := tq1; refine qAt 90 rfl ?_; go_big_quiet_want; go_big_quiet_op; apply Exists.intro; refine ⟨fun x => ?_, ?_⟩; (· refine (Q1.out _).mono ?_; rintro e x2 ⟨rfl, hb⟩; exact ⟨rfl, x.ext hb⟩); go_big_quiet_on; have tq2 : True := trivial; clear _t tq1)
    | (have _t := tq2; refine qAt 70 rfl ?_; go_big_quiet_want; go_big_quiet_op; apply Exists.intro; refine ⟨fun x => ?_, ?_⟩; (· refine (P2.out _).mono ?_; rintro e x2 ⟨rfl, hb⟩; exact ⟨rfl, x.ext hb⟩); go_big_quiet_on; have tq3 : True := trivial; clear _t tq2)
    | (have _t := tq3; refine qAt 91 rfl ?_; go_big_quiet_want; go_big_quiet_op; apply Exists.intro; refine ⟨fun x => ?_, ?_⟩; (· refine (Q2.out _).mono ?_; rintro e x2 ⟨rfl, hb⟩; exact ⟨rfl, x.ext hb⟩); go_big_quiet_on; have tq4 : True := trivial; clear _t tq3)
    | (have _t := tq4; refine qAt 92 rfl ?_; go_big_quiet_want; go_big_quiet_op; apply Exists.intro; refine ⟨fun x => ?_, ?_⟩; (· refine (P3.out _).mono ?_; rintro e x2 ⟨rfl, hb⟩; exact ⟨rfl, x.ext hb⟩); go_big_quiet_on; have tq5 : True := trivial; clear _t tq4)
    | (have _t := tq5; refine qAt 93 rfl ?_; go_big_quiet_want; go_big_quiet_op; apply Exists.intro; refine ⟨fun x => ?_, ?_⟩; (· refine (Q3.out _).mono ?_; rintro e x2 ⟨rfl, hb⟩; exact ⟨rfl, x.ext hb⟩); go_big_quiet_on; have tq6 : True := trivial; clear _t tq5)
    | (have _t := tq6; refine qAt 94 rfl ?_; go_big_quiet_want; go_big_quiet_op; apply Exists.intro; refine ⟨fun x => ?_, ?_⟩; (· refine (P4.out _).mono ?_; rintro e x2 ⟨rfl, hb⟩; exact ⟨rfl, x.ext hb⟩); go_big_quiet_on; have tq7 : True := trivial; clear _t tq6)
    | (have _t := tq7; refine qAt 95 rfl ?_; go_big_quiet_want; go_big_quiet_op; apply Exists.intro; refine ⟨fun x => ?_, ?_⟩; (· refine (Q4.out _).mono ?_; rintro e x2 ⟨rfl, hb⟩; exact ⟨rfl, x.ext hb⟩); go_big_quiet_on; have tq8 : True := trivial; clear _t tq7)
    | (go_big_quiet_want; go_big_quiet_op; go_big_quiet_on))
  refine wpQuiet_nil ?_
  rintro w9 ⟨⟨x9, h9⟩, rfl⟩
  have hb9 := below_ext HB.out h9
  replace K4 := Lib.hid (K4.out.below h9)
  replace K9 := Lib.hid (K9.out.below h9)
  replace K11 := Lib.hid (K11.out.below h9)
  replace HB := Lib.hid hb9
  clear h9 hb9
  have tp50 : True := trivial
  go_wp2_with (first
    | (go_skip)
    | (refine rosLoad (.tmp 4) rfl K4.out rfl rfl ?_)
    | (have _t := tp50; go_at_call 68; refine (P5.out _).mono ?_; rintro e w8 ⟨rfl, hb8⟩; replace K4 := Lib.hid (K4.out.below hb8); replace K9 := Lib.hid (K9.out.below hb8); replace K11 := Lib.hid (K11.out.below hb8); replace HB := Lib.hid (below_ext HB.out hb8); have hz8 := hb8.size; clear hb8; have tp51 : True := trivial; clear _t tp50)
    | (have _t := tp51; go_at_call 96; refine (Q5.out _).mono ?_; rintro e w9 ⟨rfl, hb9⟩; replace K4 := Lib.hid (K4.out.below hb9); replace K9 := Lib.hid (K9.out.below hb9); replace K11 := Lib.hid (K11.out.below hb9); replace HB := Lib.hid (below_ext HB.out hb9); have hz9 := hb9.size; clear hb9; have tp52 : True := trivial; clear _t tp51)
    | (have _t := tp52; go_at_call 66; refine (P6.out _).mono ?_; rintro e w10 ⟨rfl, hb10⟩; replace K4 := Lib.hid (K4.out.below hb10); replace K9 := Lib.hid (K9.out.below hb10); replace K11 := Lib.hid (K11.out.below hb10); replace HB := Lib.hid (below_ext HB.out hb10); have hz10 := hb10.size; clear hb10; have tp53 : True := trivial; clear _t tp52)
    | (refine rosStore (.tmp 9) (.tmp 91) rfl K9.out rfl rfl HY2.out rfl ?_; intro w11 hk hg; replace HB := Lib.hid (below_at HB.out hg (by omega) K9.out.lt); replace K4 := Lib.hid (K4.out.grown hg (by omega)); replace K11 := Lib.hid (K11.out.grown hg (by omega)); replace K9 := Lib.hid hk; have hz11 := hg.size; clear hk hg)
    | (have _t := tp53; go_at_call 97; refine (Q6.out _).mono ?_; rintro e w12 ⟨rfl, hb12⟩; replace K4 := Lib.hid (K4.out.below hb12); replace K9 := Lib.hid (K9.out.below hb12); replace K11 := Lib.hid (K11.out.below hb12); replace HB := Lib.hid (below_ext HB.out hb12); have hz12 := hb12.size; clear hb12; have tp54 : True := trivial; clear _t tp53)
    | (refine rosStore (.tmp 11) (.tmp 97) rfl K11.out rfl rfl HY2.out rfl ?_; intro w13 hk hg; replace HB := Lib.hid (below_at HB.out hg (by omega) K11.out.lt); replace K4 := Lib.hid (K4.out.grown hg (by omega)); replace K9 := Lib.hid (K9.out.grown hg (by omega)); replace K11 := Lib.hid hk; have hz13 := hg.size; clear hk hg)
    | (refine rosLoad (.tmp 9) rfl K9.out rfl rfl ?_)
    | (refine rosLoad (.tmp 11) rfl K11.out rfl rfl ?_)
    | (refine rosNeqS (.tmp 99) (.tmp 100) _ rfl rfl rfl HY2.out HY2.out false (neR_self _) rfl ?_)
    | (have _t := tp54; go_at_call 67; refine (P7.out _).mono ?_; rintro e w14 ⟨rfl, hb14⟩; replace K4 := Lib.hid (K4.out.below hb14); replace K9 := Lib.hid (K9.out.below hb14); replace K11 := Lib.hid (K11.out.below hb14); replace HB := Lib.hid (below_ext HB.out hb14); have hz14 := hb14.size; clear hb14; have tp55 : True := trivial; clear _t tp54)
    | (refine rosStore (.tmp 9) (.tmp 111) rfl K9.out rfl rfl HY3.out rfl ?_; intro w15 hk hg; replace HB := Lib.hid (below_at HB.out hg (by omega) K9.out.lt); replace K4 := Lib.hid (K4.out.grown hg (by omega)); replace K11 := Lib.hid (K11.out.grown hg (by omega)); replace K9 := Lib.hid hk; have hz15 := hg.size; clear hk hg)
    | (have _t := tp55; go_at_call 98; refine (Q7.out _).mono ?_; rintro e w16 ⟨rfl, hb16⟩; replace K4 := Lib.hid (K4.out.below hb16); replace K9 := Lib.hid (K9.out.below hb16); replace K11 := Lib.hid (K11.out.below hb16); replace HB := Lib.hid (below_ext HB.out hb16); have hz16 := hb16.size; clear hb16; have tp56 : True := trivial; clear _t tp55)
    | (refine rosStore (.tmp 11) (.tmp 117) rfl K11.out rfl rfl HY3.out rfl ?_; intro w17 hk hg; replace HB := Lib.hid (below_at HB.out hg (by omega) K11.out.lt); replace K4 := Lib.hid (K4.out.grown hg (by omega)); replace K9 := Lib.hid (K9.out.grown hg (by omega)); replace K11 := Lib.hid hk; have hz17 := hg.size; clear hk hg)
    | (refine rosNeqS (.tmp 119) (.tmp 120) _ rfl rfl rfl HY3.out HY3.out false (neR_self _) rfl ?_)
    | (have _t := tp56; go_at_call 69; refine (P8.out _).mono ?_; rintro e w18 ⟨rfl, hb18⟩; replace K4 := Lib.hid (K4.out.below hb18); replace K9 := Lib.hid (K9.out.below hb18); replace K11 := Lib.hid (K11.out.below hb18); replace HB := Lib.hid (below_ext HB.out hb18); have hz18 := hb18.size; clear hb18; have tp57 : True := trivial; clear _t tp56)
    | (refine rosStore (.tmp 9) (.tmp 130) rfl K9.out rfl rfl HY4.out rfl ?_; intro w19 hk hg; replace HB := Lib.hid (below_at HB.out hg (by omega) K9.out.lt); replace K4 := Lib.hid (K4.out.grown hg (by omega)); replace K11 := Lib.hid (K11.out.grown hg (by omega)); replace K9 := Lib.hid hk; have hz19 := hg.size; clear hk hg)
    | (have _t := tp57; go_at_call 99; refine (Q8.out _).mono ?_; rintro e w20 ⟨rfl, hb20⟩; replace K4 := Lib.hid (K4.out.below hb20); replace K9 := Lib.hid (K9.out.below hb20); replace K11 := Lib.hid (K11.out.below hb20); replace HB := Lib.hid (below_ext HB.out hb20); have hz20 := hb20.size; clear hb20; have tp58 : True := trivial; clear _t tp57)
    | (refine rosStore (.tmp 11) (.tmp 135) rfl K11.out rfl rfl HY4.out rfl ?_; intro w21 hk hg; replace HB := Lib.hid (below_at HB.out hg (by omega) K11.out.lt); replace K4 := Lib.hid (K4.out.grown hg (by omega)); replace K9 := Lib.hid (K9.out.grown hg (by omega)); replace K11 := Lib.hid hk; have hz21 := hg.size; clear hk hg)
    | (refine rosNeqS (.tmp 137) (.tmp 138) _ rfl rfl rfl HY4.out HY4.out false (neR_self _) rfl ?_)
    | (have _t := tp58; go_at_call 100; refine (P9.out _).mono ?_; rintro e w22 ⟨rfl, hb22⟩; replace K4 := Lib.hid (K4.out.below hb22); replace K9 := Lib.hid (K9.out.below hb22); replace K11 := Lib.hid (K11.out.below hb22); replace HB := Lib.hid (below_ext HB.out hb22); have hz22 := hb22.size; clear hb22; have tp59 : True := trivial; clear _t tp58)
    | (refine rosStore (.tmp 9) (.tmp 149) rfl K9.out rfl rfl HY5.out rfl ?_; intro w23 hk hg; replace HB := Lib.hid (below_at HB.out hg (by omega) K9.out.lt); replace K4 := Lib.hid (K4.out.grown hg (by omega)); replace K11 := Lib.hid (K11.out.grown hg (by omega)); replace K9 := Lib.hid hk; have hz23 := hg.size; clear hk hg)
    | (have _t := tp59; go_at_call 101; refine (Q9.out _).mono ?_; rintro e w24 ⟨rfl, hb24⟩; replace K4 := Lib.hid (K4.out.below hb24); replace K9 := Lib.hid (K9.out.below hb24); replace K11 := Lib.hid (K11.out.below hb24); replace HB := Lib.hid (below_ext HB.out hb24); have hz24 := hb24.size; clear hb24; have tp60 : True := trivial; clear _t tp59)
    | (refine rosStore (.tmp 11) (.tmp 155) rfl K11.out rfl rfl HY5.out rfl ?_; intro w25 hk hg; replace HB := Lib.hid (below_at HB.out hg (by omega) K11.out.lt); replace K4 := Lib.hid (K4.out.grown hg (by omega)); replace K9 := Lib.hid (K9.out.grown hg (by omega)); replace K11 := Lib.hid hk; have hz25 := hg.size; clear hk hg)
    | (refine rosEqlS (.tmp 157) (.tmp 158) _ rfl rfl rfl HY5.out HY5.out true (eqR_self _) rfl ?_)
    | (have _t := tp60; go_at_call 71; refine (PL.out _).mono ?_; rintro e w26 ⟨rfl, hb26⟩; replace K4 := Lib.hid (K4.out.below hb26); replace K9 := Lib.hid (K9.out.below hb26); replace K11 := Lib.hid (K11.out.below hb26); replace HB := Lib.hid (below_ext HB.out hb26); have hz26 := hb26.size; clear hb26; have tp61 : True := trivial; clear _t tp60))
  go_ret
  exact ⟨rfl, HB.out⟩
theorem newR_length (m s r : Int) : (newR m s r).1.st.length = 16 := by
  unfold newR; split <;> rfl
theorem goneR_length {x : Ro} (hl : x.st.length = 16) (b : Bool) : (goneR x b).1.st.length = 16 := by
  unfold goneR; split
  · exact hl
  · rfl
theorem loseR_length {x : Ro} (hl : x.st.length = 16) (i : Int) : (loseR x i).1.st.length = 16 := by
  unfold loseR
  split
  · split
    · show (x.st.set _ _).length = 16; rw [List.length_set]; exact hl
    · show (x.st.set _ _).length = 16; rw [List.length_set]; exact hl
  · exact hl
theorem beginR_length {x : Ro} (hl : x.st.length = 16) (i : Int) : (beginR x i).1.st.length = 16 := by
  unfold beginR
  split
  · split
    · show (x.st.set _ _).length = 16; rw [List.length_set]; exact hl
    · rfl
  · rfl
theorem tells_any (x : Ro) (hx : Wf x) (i j : Int) (g : Bool) (w : World) : Calls Try.prog 24 #[ros x, .int .i64 i, .int .i64 j, .bool g] w fun e w' => e = .returned (.bool true) ∧ Below w.heap.size w w' := by
  obtain ⟨k, b, H1, H2, -⟩ := Heals_same x hx
  obtain ⟨y, e, hy, N1, N2, -⟩ := Next_same x hx
  exact Tells_walk x _ _ _ y _ (Lib.hid hx.1) (Lib.hid (newR_length x.m x.s x.r)) (Lib.hid (loseR_length hx.1 i)) (Lib.hid (beginR_length hx.1 i)) (Lib.hid hy.1) (Lib.hid (goneR_length hx.1 g)) i j _ _ _ k _ e _ g _ _ b _
    (Lib.hid fun w => New_any _ _ _ w) (Lib.hid fun w => rNew_any _ _ _ w) (Lib.hid fun w => May_any x hx w) (Lib.hid fun w => rMay_any x hx w) (Lib.hid fun w => Has_any x hx i j w) (Lib.hid fun w => rHas_any x hx i j w)
    (Lib.hid fun w => Missing_any x hx w) (Lib.hid fun w => rMissing_any x hx w) (Lib.hid fun w => State_any x hx w) (Lib.hid fun w => rState_any x hx w) (Lib.hid H1) (Lib.hid H2) (Lib.hid fun w => Lose_any x hx i w) (Lib.hid fun w => rLose_any x hx i w)
    (Lib.hid fun w => Begin_any x hx i w) (Lib.hid fun w => rBegin_any x hx i w) (Lib.hid N1) (Lib.hid N2) (Lib.hid fun w => Gone_any x hx g w) (Lib.hid fun w => rGone_any x hx g w) (Lib.hid fun w => lives_any w) w
end Go.Proofs.Ytdchcggllcgokaa.Q
