/-
  ashlarlaw10.lives.
-/
import Derived.Test.YtdchcggllcgokaaRos19
namespace Go.Proofs.Ytdchcggllcgokaa.Q
open Go.RowKit Go.Proofs.Ytdchcggllcgokaa.L Go.Proofs.Ytdchcggllcgokaa.R Go.Proofs.YtdchcggllcgokaaW.PrintWords
set_option linter.unusedVariables false
set_option linter.unusedSimpArgs false
set_option maxRecDepth 100000 in
set_option maxHeartbeats 4000000 in
theorem lives_walk (r0 r1 r2 r3 r4 : Ro) (HL0 : Hid (r0.st.length = 16)) (HL1 : Hid (r1.st.length = 16)) (HL2 : Hid (r2.st.length = 16)) (HL3 : Hid (r3.st.length = 16)) (HL4 : Hid (r4.st.length = 16))
    (P0 : Hid (∀ w : World, Calls Try.prog 128 #[] w fun e w' => e = .returned (ros r0) ∧ Below w.heap.size w w'))
    (P1 : Hid (∀ w : World, Calls Try.prog 66 #[ros r0, .int .i64 1] w fun e w' => e = .returned (.tuple #[ros r1, .bool true]) ∧ Below w.heap.size w w'))
    (P2 : Hid (∀ w : World, Calls Try.prog 67 #[ros r1, .int .i64 1] w fun e w' => e = .returned (.tuple #[ros r2, .int .i64 0]) ∧ Below w.heap.size w w'))
    (P3 : Hid (∀ w : World, Calls Try.prog 69 #[ros r2] w fun e w' => e = .returned (.tuple #[ros r3, .int .i64 0]) ∧ Below w.heap.size w w'))
    (P4 : Hid (∀ w : World, Calls Try.prog 69 #[ros r3] w fun e w' => e = .returned (.tuple #[ros r4, .int .i64 0]) ∧ Below w.heap.size w w'))
    (P5 : Hid (∀ w : World, Calls Try.prog 69 #[ros r4] w fun e w' => e = .returned (.tuple #[ros ro0, .int .i64 17]) ∧ Below w.heap.size w w'))
    (S0 : Hid (∀ w : World, Calls Try.prog 94 #[ros r0] w fun e w' => e = .returned (.int .i64 1) ∧ Below w.heap.size w w'))
    (S1 : Hid (∀ w : World, Calls Try.prog 94 #[ros r1] w fun e w' => e = .returned (.int .i64 2) ∧ Below w.heap.size w w'))
    (H1 : Hid (∀ w : World, Calls Try.prog 70 #[ros r1, .int .i64 1, .int .i64 0] w fun e w' => e = .returned (.bool false) ∧ Below w.heap.size w w'))
    (S2 : Hid (∀ w : World, Calls Try.prog 94 #[ros r2] w fun e w' => e = .returned (.int .i64 3) ∧ Below w.heap.size w w'))
    (H2 : Hid (∀ w : World, Calls Try.prog 70 #[ros r3, .int .i64 1, .int .i64 0] w fun e w' => e = .returned (.bool true) ∧ Below w.heap.size w w'))
    (H3 : Hid (∀ w : World, Calls Try.prog 70 #[ros r3, .int .i64 1, .int .i64 1] w fun e w' => e = .returned (.bool false) ∧ Below w.heap.size w w'))
    (S4 : Hid (∀ w : World, Calls Try.prog 94 #[ros r4] w fun e w' => e = .returned (.int .i64 1) ∧ Below w.heap.size w w')) (w : World) : Calls Try.prog 71 #[] w fun e w' => e = .returned (.bool true) ∧ Below w.heap.size w w' := by
  have HB := Lib.hid (Below.refl w.heap.size w)
  have tok0 : True := trivial
  have tp0 : True := trivial
  go_enter Try.func71, Try.ntmps71
  go_wp2_with (first
    | (go_skip)
    | (have _t := tp0; go_at_call 128; refine (P0.out _).mono ?_; rintro e w1 ⟨rfl, hb1⟩; replace HB := Lib.hid (below_ext HB.out hb1); have hz1 := hb1.size; clear hb1; have tp1 : True := trivial; clear _t tp0)
    | (have _t := tp1; go_at_call 66; refine (P1.out _).mono ?_; rintro e w2 ⟨rfl, hb2⟩; replace HB := Lib.hid (below_ext HB.out hb2); have hz2 := hb2.size; clear hb2; have tp2 : True := trivial; clear _t tp1)
    | (have _t := tok0; refine rosAlloc rfl rfl ?_; intro w3 hk hb3 hz3; replace HB := Lib.hid (below_ext HB.out hb3); have K1 := Lib.hid hk; clear hk hb3; have tok1 : True := trivial; clear _t tok0)
    | (refine rosStore (.tmp 1) (.tmp 14) rfl K1.out rfl rfl HL1.out rfl ?_; intro w4 hk hg; replace HB := Lib.hid (below_at HB.out hg (by omega) K1.out.lt); replace K1 := Lib.hid hk; have hz4 := hg.size; clear hk hg)
    | (refine rosLoad (.tmp 1) rfl K1.out rfl rfl ?_)
    | (have _t := tp2; go_at_call 67; refine (P2.out _).mono ?_; rintro e w5 ⟨rfl, hb5⟩; replace K1 := Lib.hid (K1.out.below hb5); replace HB := Lib.hid (below_ext HB.out hb5); have hz5 := hb5.size; clear hb5; have tp3 : True := trivial; clear _t tp2)
    | (have _t := tok1; refine rosAlloc rfl rfl ?_; intro w6 hk hb6 hz6; replace K1 := Lib.hid (K1.out.below hb6); replace HB := Lib.hid (below_ext HB.out hb6); have K3 := Lib.hid hk; clear hk hb6; have tok2 : True := trivial; clear _t tok1)
    | (refine rosStore (.tmp 3) (.tmp 19) rfl K3.out rfl rfl HL2.out rfl ?_; intro w7 hk hg; replace HB := Lib.hid (below_at HB.out hg (by omega) K3.out.lt); replace K1 := Lib.hid (K1.out.grown hg (by omega)); replace K3 := Lib.hid hk; have hz7 := hg.size; clear hk hg)
    | (refine rosLoad (.tmp 3) rfl K3.out rfl rfl ?_)
    | (have _t := tp3; go_at_call 69; refine (P3.out _).mono ?_; rintro e w8 ⟨rfl, hb8⟩; replace K1 := Lib.hid (K1.out.below hb8); replace K3 := Lib.hid (K3.out.below hb8); replace HB := Lib.hid (below_ext HB.out hb8); have hz8 := hb8.size; clear hb8; have tp4 : True := trivial; clear _t tp3)
    | (have _t := tok2; refine rosAlloc rfl rfl ?_; intro w9 hk hb9 hz9; replace K1 := Lib.hid (K1.out.below hb9); replace K3 := Lib.hid (K3.out.below hb9); replace HB := Lib.hid (below_ext HB.out hb9); have K5 := Lib.hid hk; clear hk hb9; have tok3 : True := trivial; clear _t tok2)
    | (refine rosStore (.tmp 5) (.tmp 24) rfl K5.out rfl rfl HL3.out rfl ?_; intro w10 hk hg; replace HB := Lib.hid (below_at HB.out hg (by omega) K5.out.lt); replace K1 := Lib.hid (K1.out.grown hg (by omega)); replace K3 := Lib.hid (K3.out.grown hg (by omega)); replace K5 := Lib.hid hk; have hz10 := hg.size; clear hk hg)
    | (refine rosLoad (.tmp 5) rfl K5.out rfl rfl ?_)
    | (have _t := tp4; go_at_call 69; refine (P4.out _).mono ?_; rintro e w11 ⟨rfl, hb11⟩; replace K1 := Lib.hid (K1.out.below hb11); replace K3 := Lib.hid (K3.out.below hb11); replace K5 := Lib.hid (K5.out.below hb11); replace HB := Lib.hid (below_ext HB.out hb11); have hz11 := hb11.size; clear hb11; have tp5 : True := trivial; clear _t tp4)
    | (have _t := tok3; refine rosAlloc rfl rfl ?_; intro w12 hk hb12 hz12; replace K1 := Lib.hid (K1.out.below hb12); replace K3 := Lib.hid (K3.out.below hb12); replace K5 := Lib.hid (K5.out.below hb12); replace HB := Lib.hid (below_ext HB.out hb12); have K7 := Lib.hid hk; clear hk hb12; have tok4 : True := trivial; clear _t tok3)
    | (refine rosStore (.tmp 7) (.tmp 29) rfl K7.out rfl rfl HL4.out rfl ?_; intro w13 hk hg; replace HB := Lib.hid (below_at HB.out hg (by omega) K7.out.lt); replace K1 := Lib.hid (K1.out.grown hg (by omega)); replace K3 := Lib.hid (K3.out.grown hg (by omega)); replace K5 := Lib.hid (K5.out.grown hg (by omega)); replace K7 := Lib.hid hk; have hz13 := hg.size; clear hk hg)
    | (refine rosLoad (.tmp 7) rfl K7.out rfl rfl ?_)
    | (have _t := tp5; go_at_call 69; refine (P5.out _).mono ?_; rintro e w14 ⟨rfl, hb14⟩; replace K1 := Lib.hid (K1.out.below hb14); replace K3 := Lib.hid (K3.out.below hb14); replace K5 := Lib.hid (K5.out.below hb14); replace K7 := Lib.hid (K7.out.below hb14); replace HB := Lib.hid (below_ext HB.out hb14); have hz14 := hb14.size; clear hb14; have tp6 : True := trivial; clear _t tp5)
    | (have _t := tok4; refine rosAlloc rfl rfl ?_; intro w15 hk hb15 hz15; replace K1 := Lib.hid (K1.out.below hb15); replace K3 := Lib.hid (K3.out.below hb15); replace K5 := Lib.hid (K5.out.below hb15); replace K7 := Lib.hid (K7.out.below hb15); replace HB := Lib.hid (below_ext HB.out hb15); have K9 := Lib.hid hk; clear hk hb15; have tok5 : True := trivial; clear _t tok4)
    | (refine rosStore (.tmp 9) (.tmp 34) rfl K9.out rfl rfl zero16_length rfl ?_; intro w16 hk hg; replace HB := Lib.hid (below_at HB.out hg (by omega) K9.out.lt); replace K1 := Lib.hid (K1.out.grown hg (by omega)); replace K3 := Lib.hid (K3.out.grown hg (by omega)); replace K5 := Lib.hid (K5.out.grown hg (by omega)); replace K7 := Lib.hid (K7.out.grown hg (by omega)); replace K9 := Lib.hid hk; have hz16 := hg.size; clear hk hg)
    | (have _t := tp6; go_at_call 128; refine (P0.out _).mono ?_; rintro e w17 ⟨rfl, hb17⟩; replace K1 := Lib.hid (K1.out.below hb17); replace K3 := Lib.hid (K3.out.below hb17); replace K5 := Lib.hid (K5.out.below hb17); replace K7 := Lib.hid (K7.out.below hb17); replace K9 := Lib.hid (K9.out.below hb17); replace HB := Lib.hid (below_ext HB.out hb17); have hz17 := hb17.size; clear hb17; have tp7 : True := trivial; clear _t tp6)
    | (have _t := tp7; go_at_call 94; refine (S0.out _).mono ?_; rintro e w18 ⟨rfl, hb18⟩; replace K1 := Lib.hid (K1.out.below hb18); replace K3 := Lib.hid (K3.out.below hb18); replace K5 := Lib.hid (K5.out.below hb18); replace K7 := Lib.hid (K7.out.below hb18); replace K9 := Lib.hid (K9.out.below hb18); replace HB := Lib.hid (below_ext HB.out hb18); have hz18 := hb18.size; clear hb18; have tp8 : True := trivial; clear _t tp7)
    | (have _t := tp8; go_at_call 94; refine (S1.out _).mono ?_; rintro e w19 ⟨rfl, hb19⟩; replace K1 := Lib.hid (K1.out.below hb19); replace K3 := Lib.hid (K3.out.below hb19); replace K5 := Lib.hid (K5.out.below hb19); replace K7 := Lib.hid (K7.out.below hb19); replace K9 := Lib.hid (K9.out.below hb19); replace HB := Lib.hid (below_ext HB.out hb19); have hz19 := hb19.size; clear hb19; have tp9 : True := trivial; clear _t tp8)
    | (have _t := tp9; go_at_call 70; refine (H1.out _).mono ?_; rintro e w20 ⟨rfl, hb20⟩; replace K1 := Lib.hid (K1.out.below hb20); replace K3 := Lib.hid (K3.out.below hb20); replace K5 := Lib.hid (K5.out.below hb20); replace K7 := Lib.hid (K7.out.below hb20); replace K9 := Lib.hid (K9.out.below hb20); replace HB := Lib.hid (below_ext HB.out hb20); have hz20 := hb20.size; clear hb20; have tp10 : True := trivial; clear _t tp9)
    | (have _t := tp10; go_at_call 94; refine (S2.out _).mono ?_; rintro e w21 ⟨rfl, hb21⟩; replace K1 := Lib.hid (K1.out.below hb21); replace K3 := Lib.hid (K3.out.below hb21); replace K5 := Lib.hid (K5.out.below hb21); replace K7 := Lib.hid (K7.out.below hb21); replace K9 := Lib.hid (K9.out.below hb21); replace HB := Lib.hid (below_ext HB.out hb21); have hz21 := hb21.size; clear hb21; have tp11 : True := trivial; clear _t tp10)
    | (have _t := tp11; go_at_call 70; refine (H2.out _).mono ?_; rintro e w22 ⟨rfl, hb22⟩; replace K1 := Lib.hid (K1.out.below hb22); replace K3 := Lib.hid (K3.out.below hb22); replace K5 := Lib.hid (K5.out.below hb22); replace K7 := Lib.hid (K7.out.below hb22); replace K9 := Lib.hid (K9.out.below hb22); replace HB := Lib.hid (below_ext HB.out hb22); have hz22 := hb22.size; clear hb22; have tp12 : True := trivial; clear _t tp11)
    | (have _t := tp12; go_at_call 70; refine (H3.out _).mono ?_; rintro e w23 ⟨rfl, hb23⟩; replace K1 := Lib.hid (K1.out.below hb23); replace K3 := Lib.hid (K3.out.below hb23); replace K5 := Lib.hid (K5.out.below hb23); replace K7 := Lib.hid (K7.out.below hb23); replace K9 := Lib.hid (K9.out.below hb23); replace HB := Lib.hid (below_ext HB.out hb23); have hz23 := hb23.size; clear hb23; have tp13 : True := trivial; clear _t tp12)
    | (have _t := tp13; go_at_call 94; refine (S4.out _).mono ?_; rintro e w24 ⟨rfl, hb24⟩; replace K1 := Lib.hid (K1.out.below hb24); replace K3 := Lib.hid (K3.out.below hb24); replace K5 := Lib.hid (K5.out.below hb24); replace K7 := Lib.hid (K7.out.below hb24); replace K9 := Lib.hid (K9.out.below hb24); replace HB := Lib.hid (below_ext HB.out hb24); have hz24 := hb24.size; clear hb24; have tp14 : True := trivial; clear _t tp13))
  go_ret
  exact ⟨rfl, HB.out⟩
def r1 : Ro := ⟨3, 2, 40, zero16.set 1 1, 0, false⟩
def r2 : Ro := ⟨3, 2, 40, (zero16.set 1 1).set 1 2, 0, false⟩
def r3 : Ro := ⟨3, 2, 40, (zero16.set 1 1).set 1 2, 1, false⟩
def r4 : Ro := ⟨3, 2, 40, ((zero16.set 1 1).set 1 2).set 1 0, 0, false⟩
theorem okR_le {x : Ro} (h1 : mayG x.m x.s x.r = true) (h2 : decide (0 ≤ x.cu ∧ x.cu < x.s) = true) (h3 : ∀ i : Nat, i < 16 → (rd x.st (i : Int) ≤ 2 ∧ (x.m ≤ (i : Int) → rd x.st (i : Int) = 0))) (h4 : cnt x.st 2 16 = 1 ∨ (cnt x.st 2 16 = 0 ∧ x.cu = 0)) : mayR x = true :=
  (mayR_iff x).2 ⟨h1, (of_decide_eq_true h2).1, (of_decide_eq_true h2).2, h3, h4⟩
theorem m0 : mayR r0 = true := okR_le (by decide) (by decide) (by decide) (by decide)
theorem m1 : mayR r1 = true := okR_le (by decide) (by decide) (by decide) (by decide)
theorem m2 : mayR r2 = true := okR_le (by decide) (by decide) (by decide) (by decide)
theorem m3 : mayR r3 = true := okR_le (by decide) (by decide) (by decide) (by decide)
theorem m4 : mayR r4 = true := okR_le (by decide) (by decide) (by decide) (by decide)
theorem wf_dec {x : Ro} (h : (x.st.length == 16 && x.st.all fun v => (Lit.int .u8 v).wf) = true) : Wf x := by
  rw [Bool.and_eq_true, beq_iff_eq, List.all_eq_true] at h
  exact h
theorem f0 : Wf r0 := wf_dec (by decide)
theorem f1 : Wf r1 := wf_dec (by decide)
theorem f2 : Wf r2 := wf_dec (by decide)
theorem f3 : Wf r3 := wf_dec (by decide)
theorem f4 : Wf r4 := wf_dec (by decide)
theorem mem1 {x : Ro} (h : mayR x = true) (hm : x.m = 3) : memR x 1 = true := by
  rw [memR, h, hm]; decide
/-- Next of one that heals, its member told -/
theorem next_of {x y : Ro} (hx : Wf x) (h : mayR x = true) {k : Nat} (hk : k < 16) (h2 : rd x.st (k : Int) = 2) (h1 : cnt x.st 2 16 = 1) (hy : (x.cu + 1 = x.s ∧ y = { x with st := x.st.set k 0, cu := 0 }) ∨ (x.cu + 1 ≠ x.s ∧ y = { x with cu := x.cu + 1 })) (w : World) :
    Calls Try.prog 69 #[ros x] w fun z w' => z = .returned (.tuple #[ros y, .int .i64 0]) ∧ Below w.heap.size w w' := by
  obtain ⟨y', e, -, hc, -, hp⟩ := Next_same x hx
  rcases hp with ⟨q, -⟩ | ⟨-, q, -⟩ | ⟨-, rfl, k', hk', h2', hy'⟩
  · rw [h] at q; exact absurd q (by decide)
  · omega
  · have hkk : k' = k := by
      have e1 := cnt_set16 hx.1 hk 0 2
      rw [if_pos h2, if_neg (by decide), h1] at e1
      have e2 := (cnt_none (x.st.set k 0) 2 16).1 (by omega) k' hk'
      rw [rd_set (by rw [hx.1]; exact hk)] at e2
      rcases Nat.decEq k' k with e3 | e3
      · rw [if_neg e3] at e2; exact absurd h2' e2
      · exact e3
    subst hkk
    have : y' = y := by
      rcases hy with ⟨q, rfl⟩ | ⟨q, rfl⟩
      · rcases hy' with ⟨q', rfl⟩ | ⟨q', rfl⟩
        · rfl
        · exact absurd q q'
      · rcases hy' with ⟨q', rfl⟩ | ⟨q', rfl⟩
        · exact absurd q' q
        · rfl
    subst this
    exact hc w
theorem next_none {x : Ro} (hx : Wf x) (h : mayR x = true) (h1 : cnt x.st 2 16 = 0) (w : World) :
    Calls Try.prog 69 #[ros x] w fun z w' => z = .returned (.tuple #[ros ro0, .int .i64 17]) ∧ Below w.heap.size w w' := by
  obtain ⟨y', e, -, hc, -, hp⟩ := Next_same x hx
  rcases hp with ⟨q, -⟩ | ⟨-, -, rfl, rfl⟩ | ⟨-, rfl, k', hk', h2', hy'⟩
  · rw [h] at q; exact absurd q (by decide)
  · exact hc w
  · exact absurd h2' ((cnt_none x.st 2 16).1 h1 k' hk')
theorem lives_any (w : World) : Calls Try.prog 71 #[] w fun e w' => e = .returned (.bool true) ∧ Below w.heap.size w w' := by
  have l1 : loseR r0 1 = (r1, true) := by
    rw [loseR, if_pos (mem1 m0 rfl), if_neg (by decide)]; rfl
  have b1 : beginR r1 1 = (r2, 0) := by
    rw [beginR, if_pos (mem1 m1 rfl), if_pos ⟨by decide, by rw [missR_is m1]; decide, rfl⟩]; rfl
  have P1 := fun w => Lose_any r0 f0 1 w
  have P2 := fun w => Begin_any r1 f1 1 w
  have S0 := fun w => State_any r0 f0 w
  have S1 := fun w => State_any r1 f1 w
  have S2 := fun w => State_any r2 f2 w
  have S4 := fun w => State_any r4 f4 w
  have H1 := fun w => Has_any r1 f1 1 0 w
  have H2 := fun w => Has_any r3 f3 1 0 w
  have H3 := fun w => Has_any r3 f3 1 1 w
  rw [l1] at P1
  rw [b1] at P2
  rw [stateR_of m0 (n := 0) (by rw [missR_is m0]; decide) (d := 0) (by decide)] at S0
  rw [stateR_of m1 (n := 1) (by rw [missR_is m1]; decide) (d := 0) (by decide)] at S1
  rw [stateR_of m2 (n := 1) (by rw [missR_is m2]; decide) (d := 1) (by decide)] at S2
  rw [stateR_of m4 (n := 0) (by rw [missR_is m4]; decide) (d := 0) (by decide)] at S4
  rw [hasR, mem1 m1 rfl] at H1
  rw [hasR, mem1 m3 rfl] at H2 H3
  exact lives_walk r0 r1 r2 r3 r4 (Lib.hid rfl) (Lib.hid rfl) (Lib.hid rfl) (Lib.hid rfl) (Lib.hid rfl) (Lib.hid fun w => two_any w) (Lib.hid P1) (Lib.hid P2)
    (Lib.hid fun w => next_of f2 m2 (k := 1) (by decide) (by decide) (by decide) (.inr ⟨by decide, rfl⟩) w)
    (Lib.hid fun w => next_of f3 m3 (k := 1) (by decide) (by decide) (by decide) (.inl ⟨by decide, rfl⟩) w)
    (Lib.hid fun w => next_none f4 m4 (by decide) w) (Lib.hid S0) (Lib.hid S1) (Lib.hid H1) (Lib.hid S2) (Lib.hid H2) (Lib.hid H3) (Lib.hid S4) w
end Go.Proofs.Ytdchcggllcgokaa.Q
