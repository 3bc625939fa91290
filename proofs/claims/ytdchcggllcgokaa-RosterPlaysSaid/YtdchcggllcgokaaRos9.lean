/-
  roster.State, New: the walks.
-/
import Derived.Test.YtdchcggllcgokaaRos8
namespace Go.Proofs.Ytdchcggllcgokaa.Q
open Go.RowKit Go.Proofs.Ytdchcggllcgokaa.L Go.Proofs.Ytdchcggllcgokaa.R Go.Proofs.YtdchcggllcgokaaW.PrintWords
set_option linter.unusedVariables false
set_option linter.unusedSimpArgs false
set_option maxRecDepth 100000 in
set_option maxHeartbeats 2000000 in
theorem State_A (x : Ro) (HL : Hid (x.st.length = 16)) (k c : Int) (b : Bool) 
    (H : Hid (∀ w : World, Calls Try.prog 68 #[ros x] w fun e w' => e = .returned (.tuple #[.int .i64 k, .bool b]) ∧ Below w.heap.size w w'))
    (M : Hid (∀ w : World, Calls Try.prog 92 #[ros x] w fun e w' => e = .returned (.int .i64 c) ∧ Below w.heap.size w w'))
    (Y : Hid (∀ w : World, Calls Try.prog 89 #[ros x] w fun e w' => e = .returned (.bool false) ∧ Below w.heap.size w w')) (w : World) : Calls Try.prog 94 #[ros x] w fun e w' => e = .returned (.int .i64 0) ∧ Below w.heap.size w w' := by
  have HB := Lib.hid (Below.refl w.heap.size w)
  have tok0 : True := trivial
  have tp0 : True := trivial
  go_enter Try.func94, Try.ntmps94
  go_wp2_with (first
    | (go_skip)
    | (refine rosBox (.tmp 0) rfl rfl HL.out rfl ?_; intro w1 hk hb1 hz1; replace HB := Lib.hid (below_ext HB.out hb1); have K1 := Lib.hid hk; clear hk hb1)
    | (refine rosLoad (.tmp 1) rfl K1.out rfl rfl ?_)
    | (have _t := tp0; go_at_call 68; refine (H.out _).mono ?_; rintro e w2 ⟨rfl, hb2⟩; replace K1 := Lib.hid (K1.out.below hb2); replace HB := Lib.hid (below_ext HB.out hb2); have hz2 := hb2.size; clear hb2; have tp1 : True := trivial; clear _t tp0)
    | (have _t := tp1; go_at_call 92; refine (M.out _).mono ?_; rintro e w3 ⟨rfl, hb3⟩; replace K1 := Lib.hid (K1.out.below hb3); replace HB := Lib.hid (below_ext HB.out hb3); have hz3 := hb3.size; clear hb3; have tp2 : True := trivial; clear _t tp1)
    | (have _t := tp2; go_at_call 89; refine (Y.out _).mono ?_; rintro e w4 ⟨rfl, hb4⟩; replace K1 := Lib.hid (K1.out.below hb4); replace HB := Lib.hid (below_ext HB.out hb4); have hz4 := hb4.size; clear hb4; have tp3 : True := trivial; clear _t tp2))
  go_ret
  exact ⟨rfl, HB.out⟩
set_option maxRecDepth 100000 in
set_option maxHeartbeats 2000000 in
theorem State_B (x : Ro) (HL : Hid (x.st.length = 16)) (k c : Int) (b : Bool) (h : 1 < c)
    (H : Hid (∀ w : World, Calls Try.prog 68 #[ros x] w fun e w' => e = .returned (.tuple #[.int .i64 k, .bool b]) ∧ Below w.heap.size w w'))
    (M : Hid (∀ w : World, Calls Try.prog 92 #[ros x] w fun e w' => e = .returned (.int .i64 c) ∧ Below w.heap.size w w'))
    (Y : Hid (∀ w : World, Calls Try.prog 89 #[ros x] w fun e w' => e = .returned (.bool true) ∧ Below w.heap.size w w')) (w : World) : Calls Try.prog 94 #[ros x] w fun e w' => e = .returned (.int .i64 5) ∧ Below w.heap.size w w' := by
  have HB := Lib.hid (Below.refl w.heap.size w)
  have g1 : decide (1 < c) = true := by simpa using h
  have tok0 : True := trivial
  have tp0 : True := trivial
  go_enter Try.func94, Try.ntmps94
  go_wp2_with (first
    | (go_skip)
    | (refine rosBox (.tmp 0) rfl rfl HL.out rfl ?_; intro w1 hk hb1 hz1; replace HB := Lib.hid (below_ext HB.out hb1); have K1 := Lib.hid hk; clear hk hb1)
    | (refine rosLoad (.tmp 1) rfl K1.out rfl rfl ?_)
    | (have _t := tp0; go_at_call 68; refine (H.out _).mono ?_; rintro e w2 ⟨rfl, hb2⟩; replace K1 := Lib.hid (K1.out.below hb2); replace HB := Lib.hid (below_ext HB.out hb2); have hz2 := hb2.size; clear hb2; have tp1 : True := trivial; clear _t tp0)
    | (have _t := tp1; go_at_call 92; refine (M.out _).mono ?_; rintro e w3 ⟨rfl, hb3⟩; replace K1 := Lib.hid (K1.out.below hb3); replace HB := Lib.hid (below_ext HB.out hb3); have hz3 := hb3.size; clear hb3; have tp2 : True := trivial; clear _t tp1)
    | (have _t := tp2; go_at_call 89; refine (Y.out _).mono ?_; rintro e w4 ⟨rfl, hb4⟩; replace K1 := Lib.hid (K1.out.below hb4); replace HB := Lib.hid (below_ext HB.out hb4); have hz4 := hb4.size; clear hb4; have tp3 : True := trivial; clear _t tp2))
  go_ret
  exact ⟨rfl, HB.out⟩
set_option maxRecDepth 100000 in
set_option maxHeartbeats 2000000 in
theorem State_C (x : Ro) (HL : Hid (x.st.length = 16)) (k c : Int) (b : Bool) (h : c = 1) (hg : x.go = true)
    (H : Hid (∀ w : World, Calls Try.prog 68 #[ros x] w fun e w' => e = .returned (.tuple #[.int .i64 k, .bool b]) ∧ Below w.heap.size w w'))
    (M : Hid (∀ w : World, Calls Try.prog 92 #[ros x] w fun e w' => e = .returned (.int .i64 c) ∧ Below w.heap.size w w'))
    (Y : Hid (∀ w : World, Calls Try.prog 89 #[ros x] w fun e w' => e = .returned (.bool true) ∧ Below w.heap.size w w')) (w : World) : Calls Try.prog 94 #[ros x] w fun e w' => e = .returned (.int .i64 5) ∧ Below w.heap.size w w' := by
  have HB := Lib.hid (Below.refl w.heap.size w)
  have g1 : decide (1 < c) = false := by simp; omega
  have g2 : (c == 1) = true := by rw [beq_iff_eq]; omega
  clear h
  have tok0 : True := trivial
  have tp0 : True := trivial
  go_enter Try.func94, Try.ntmps94
  go_wp2_with (first
    | (go_skip)
    | (refine rosBox (.tmp 0) rfl rfl HL.out rfl ?_; intro w1 hk hb1 hz1; replace HB := Lib.hid (below_ext HB.out hb1); have K1 := Lib.hid hk; clear hk hb1)
    | (refine rosLoad (.tmp 1) rfl K1.out rfl rfl ?_)
    | (have _t := tp0; go_at_call 68; refine (H.out _).mono ?_; rintro e w2 ⟨rfl, hb2⟩; replace K1 := Lib.hid (K1.out.below hb2); replace HB := Lib.hid (below_ext HB.out hb2); have hz2 := hb2.size; clear hb2; have tp1 : True := trivial; clear _t tp0)
    | (have _t := tp1; go_at_call 92; refine (M.out _).mono ?_; rintro e w3 ⟨rfl, hb3⟩; replace K1 := Lib.hid (K1.out.below hb3); replace HB := Lib.hid (below_ext HB.out hb3); have hz3 := hb3.size; clear hb3; have tp2 : True := trivial; clear _t tp1)
    | (have _t := tp2; go_at_call 89; refine (Y.out _).mono ?_; rintro e w4 ⟨rfl, hb4⟩; replace K1 := Lib.hid (K1.out.below hb4); replace HB := Lib.hid (below_ext HB.out hb4); have hz4 := hb4.size; clear hb4; have tp3 : True := trivial; clear _t tp2)
    | (refine F.rowCell _ (.tmp 23) rfl K1.out.cgo rfl agg_bool rfl ?_))
  go_ret
  exact ⟨rfl, HB.out⟩
set_option maxRecDepth 100000 in
set_option maxHeartbeats 2000000 in
theorem State_D (x : Ro) (HL : Hid (x.st.length = 16)) (k c : Int)  (h : c = 1) (hg : x.go = false)
    (H : Hid (∀ w : World, Calls Try.prog 68 #[ros x] w fun e w' => e = .returned (.tuple #[.int .i64 k, .bool true]) ∧ Below w.heap.size w w'))
    (M : Hid (∀ w : World, Calls Try.prog 92 #[ros x] w fun e w' => e = .returned (.int .i64 c) ∧ Below w.heap.size w w'))
    (Y : Hid (∀ w : World, Calls Try.prog 89 #[ros x] w fun e w' => e = .returned (.bool true) ∧ Below w.heap.size w w')) (w : World) : Calls Try.prog 94 #[ros x] w fun e w' => e = .returned (.int .i64 3) ∧ Below w.heap.size w w' := by
  have HB := Lib.hid (Below.refl w.heap.size w)
  have g1 : decide (1 < c) = false := by simp; omega
  have g2 : (c == 1) = true := by rw [beq_iff_eq]; omega
  clear h
  have tok0 : True := trivial
  have tp0 : True := trivial
  go_enter Try.func94, Try.ntmps94
  go_wp2_with (first
    | (go_skip)
    | (refine rosBox (.tmp 0) rfl rfl HL.out rfl ?_; intro w1 hk hb1 hz1; replace HB := Lib.hid (below_ext HB.out hb1); have K1 := Lib.hid hk; clear hk hb1)
    | (refine rosLoad (.tmp 1) rfl K1.out rfl rfl ?_)
    | (have _t := tp0; go_at_call 68; refine (H.out _).mono ?_; rintro e w2 ⟨rfl, hb2⟩; replace K1 := Lib.hid (K1.out.below hb2); replace HB := Lib.hid (below_ext HB.out hb2); have hz2 := hb2.size; clear hb2; have tp1 : True := trivial; clear _t tp0)
    | (have _t := tp1; go_at_call 92; refine (M.out _).mono ?_; rintro e w3 ⟨rfl, hb3⟩; replace K1 := Lib.hid (K1.out.below hb3); replace HB := Lib.hid (below_ext HB.out hb3); have hz3 := hb3.size; clear hb3; have tp2 : True := trivial; clear _t tp1)
    | (have _t := tp2; go_at_call 89; refine (Y.out _).mono ?_; rintro e w4 ⟨rfl, hb4⟩; replace K1 := Lib.hid (K1.out.below hb4); replace HB := Lib.hid (below_ext HB.out hb4); have hz4 := hb4.size; clear hb4; have tp3 : True := trivial; clear _t tp2)
    | (refine F.rowCell _ (.tmp 23) rfl K1.out.cgo rfl agg_bool rfl ?_)
    | (refine F.rowCell _ (.tmp 27) rfl K1.out.cgo rfl agg_bool rfl ?_))
  go_ret
  exact ⟨rfl, HB.out⟩
set_option maxRecDepth 100000 in
set_option maxHeartbeats 2000000 in
theorem State_E (x : Ro) (HL : Hid (x.st.length = 16)) (k c : Int)  (h : c = 1) (hg : x.go = false)
    (H : Hid (∀ w : World, Calls Try.prog 68 #[ros x] w fun e w' => e = .returned (.tuple #[.int .i64 k, .bool false]) ∧ Below w.heap.size w w'))
    (M : Hid (∀ w : World, Calls Try.prog 92 #[ros x] w fun e w' => e = .returned (.int .i64 c) ∧ Below w.heap.size w w'))
    (Y : Hid (∀ w : World, Calls Try.prog 89 #[ros x] w fun e w' => e = .returned (.bool true) ∧ Below w.heap.size w w')) (w : World) : Calls Try.prog 94 #[ros x] w fun e w' => e = .returned (.int .i64 2) ∧ Below w.heap.size w w' := by
  have HB := Lib.hid (Below.refl w.heap.size w)
  have g1 : decide (1 < c) = false := by simp; omega
  have g2 : (c == 1) = true := by rw [beq_iff_eq]; omega
  clear h
  have tok0 : True := trivial
  have tp0 : True := trivial
  go_enter Try.func94, Try.ntmps94
  go_wp2_with (first
    | (go_skip)
    | (refine rosBox (.tmp 0) rfl rfl HL.out rfl ?_; intro w1 hk hb1 hz1; replace HB := Lib.hid (below_ext HB.out hb1); have K1 := Lib.hid hk; clear hk hb1)
    | (refine rosLoad (.tmp 1) rfl K1.out rfl rfl ?_)
    | (have _t := tp0; go_at_call 68; refine (H.out _).mono ?_; rintro e w2 ⟨rfl, hb2⟩; replace K1 := Lib.hid (K1.out.below hb2); replace HB := Lib.hid (below_ext HB.out hb2); have hz2 := hb2.size; clear hb2; have tp1 : True := trivial; clear _t tp0)
    | (have _t := tp1; go_at_call 92; refine (M.out _).mono ?_; rintro e w3 ⟨rfl, hb3⟩; replace K1 := Lib.hid (K1.out.below hb3); replace HB := Lib.hid (below_ext HB.out hb3); have hz3 := hb3.size; clear hb3; have tp2 : True := trivial; clear _t tp1)
    | (have _t := tp2; go_at_call 89; refine (Y.out _).mono ?_; rintro e w4 ⟨rfl, hb4⟩; replace K1 := Lib.hid (K1.out.below hb4); replace HB := Lib.hid (below_ext HB.out hb4); have hz4 := hb4.size; clear hb4; have tp3 : True := trivial; clear _t tp2)
    | (refine F.rowCell _ (.tmp 23) rfl K1.out.cgo rfl agg_bool rfl ?_)
    | (refine F.rowCell _ (.tmp 27) rfl K1.out.cgo rfl agg_bool rfl ?_))
  go_ret
  exact ⟨rfl, HB.out⟩
set_option maxRecDepth 100000 in
set_option maxHeartbeats 2000000 in
theorem State_F (x : Ro) (HL : Hid (x.st.length = 16)) (k c : Int) (b : Bool) (h : c < 1) (hg : x.go = true)
    (H : Hid (∀ w : World, Calls Try.prog 68 #[ros x] w fun e w' => e = .returned (.tuple #[.int .i64 k, .bool b]) ∧ Below w.heap.size w w'))
    (M : Hid (∀ w : World, Calls Try.prog 92 #[ros x] w fun e w' => e = .returned (.int .i64 c) ∧ Below w.heap.size w w'))
    (Y : Hid (∀ w : World, Calls Try.prog 89 #[ros x] w fun e w' => e = .returned (.bool true) ∧ Below w.heap.size w w')) (w : World) : Calls Try.prog 94 #[ros x] w fun e w' => e = .returned (.int .i64 4) ∧ Below w.heap.size w w' := by
  have HB := Lib.hid (Below.refl w.heap.size w)
  have g1 : decide (1 < c) = false := by simp; omega
  have g2 : (c == 1) = false := by rw [beq_eq_false_iff_ne]; omega
  have tok0 : True := trivial
  have tp0 : True := trivial
  go_enter Try.func94, Try.ntmps94
  go_wp2_with (first
    | (go_skip)
    | (refine rosBox (.tmp 0) rfl rfl HL.out rfl ?_; intro w1 hk hb1 hz1; replace HB := Lib.hid (below_ext HB.out hb1); have K1 := Lib.hid hk; clear hk hb1)
    | (refine rosLoad (.tmp 1) rfl K1.out rfl rfl ?_)
    | (have _t := tp0; go_at_call 68; refine (H.out _).mono ?_; rintro e w2 ⟨rfl, hb2⟩; replace K1 := Lib.hid (K1.out.below hb2); replace HB := Lib.hid (below_ext HB.out hb2); have hz2 := hb2.size; clear hb2; have tp1 : True := trivial; clear _t tp0)
    | (have _t := tp1; go_at_call 92; refine (M.out _).mono ?_; rintro e w3 ⟨rfl, hb3⟩; replace K1 := Lib.hid (K1.out.below hb3); replace HB := Lib.hid (below_ext HB.out hb3); have hz3 := hb3.size; clear hb3; have tp2 : True := trivial; clear _t tp1)
    | (have _t := tp2; go_at_call 89; refine (Y.out _).mono ?_; rintro e w4 ⟨rfl, hb4⟩; replace K1 := Lib.hid (K1.out.below hb4); replace HB := Lib.hid (below_ext HB.out hb4); have hz4 := hb4.size; clear hb4; have tp3 : True := trivial; clear _t tp2)
    | (refine F.rowCell _ (.tmp 23) rfl K1.out.cgo rfl agg_bool rfl ?_)
    | (refine F.rowCell _ (.tmp 27) rfl K1.out.cgo rfl agg_bool rfl ?_))
  go_ret
  exact ⟨rfl, HB.out⟩
set_option maxRecDepth 100000 in
set_option maxHeartbeats 2000000 in
theorem State_G (x : Ro) (HL : Hid (x.st.length = 16)) (k c : Int)  (h : c < 1) (hg : x.go = false)
    (H : Hid (∀ w : World, Calls Try.prog 68 #[ros x] w fun e w' => e = .returned (.tuple #[.int .i64 k, .bool true]) ∧ Below w.heap.size w w'))
    (M : Hid (∀ w : World, Calls Try.prog 92 #[ros x] w fun e w' => e = .returned (.int .i64 c) ∧ Below w.heap.size w w'))
    (Y : Hid (∀ w : World, Calls Try.prog 89 #[ros x] w fun e w' => e = .returned (.bool true) ∧ Below w.heap.size w w')) (w : World) : Calls Try.prog 94 #[ros x] w fun e w' => e = .returned (.int .i64 3) ∧ Below w.heap.size w w' := by
  have HB := Lib.hid (Below.refl w.heap.size w)
  have g1 : decide (1 < c) = false := by simp; omega
  have g2 : (c == 1) = false := by rw [beq_eq_false_iff_ne]; omega
  have tok0 : True := trivial
  have tp0 : True := trivial
  go_enter Try.func94, Try.ntmps94
  go_wp2_with (first
    | (go_skip)
    | (refine rosBox (.tmp 0) rfl rfl HL.out rfl ?_; intro w1 hk hb1 hz1; replace HB := Lib.hid (below_ext HB.out hb1); have K1 := Lib.hid hk; clear hk hb1)
    | (refine rosLoad (.tmp 1) rfl K1.out rfl rfl ?_)
    | (have _t := tp0; go_at_call 68; refine (H.out _).mono ?_; rintro e w2 ⟨rfl, hb2⟩; replace K1 := Lib.hid (K1.out.below hb2); replace HB := Lib.hid (below_ext HB.out hb2); have hz2 := hb2.size; clear hb2; have tp1 : True := trivial; clear _t tp0)
    | (have _t := tp1; go_at_call 92; refine (M.out _).mono ?_; rintro e w3 ⟨rfl, hb3⟩; replace K1 := Lib.hid (K1.out.below hb3); replace HB := Lib.hid (below_ext HB.out hb3); have hz3 := hb3.size; clear hb3; have tp2 : True := trivial; clear _t tp1)
    | (have _t := tp2; go_at_call 89; refine (Y.out _).mono ?_; rintro e w4 ⟨rfl, hb4⟩; replace K1 := Lib.hid (K1.out.below hb4); replace HB := Lib.hid (below_ext HB.out hb4); have hz4 := hb4.size; clear hb4; have tp3 : True := trivial; clear _t tp2)
    | (refine F.rowCell _ (.tmp 23) rfl K1.out.cgo rfl agg_bool rfl ?_)
    | (refine F.rowCell _ (.tmp 27) rfl K1.out.cgo rfl agg_bool rfl ?_))
  go_ret
  exact ⟨rfl, HB.out⟩
set_option maxRecDepth 100000 in
set_option maxHeartbeats 2000000 in
theorem State_H_ (x : Ro) (HL : Hid (x.st.length = 16)) (k c : Int)  (h : c < 1) (hg : x.go = false)
    (H : Hid (∀ w : World, Calls Try.prog 68 #[ros x] w fun e w' => e = .returned (.tuple #[.int .i64 k, .bool false]) ∧ Below w.heap.size w w'))
    (M : Hid (∀ w : World, Calls Try.prog 92 #[ros x] w fun e w' => e = .returned (.int .i64 c) ∧ Below w.heap.size w w'))
    (Y : Hid (∀ w : World, Calls Try.prog 89 #[ros x] w fun e w' => e = .returned (.bool true) ∧ Below w.heap.size w w')) (w : World) : Calls Try.prog 94 #[ros x] w fun e w' => e = .returned (.int .i64 1) ∧ Below w.heap.size w w' := by
  have HB := Lib.hid (Below.refl w.heap.size w)
  have g1 : decide (1 < c) = false := by simp; omega
  have g2 : (c == 1) = false := by rw [beq_eq_false_iff_ne]; omega
  have tok0 : True := trivial
  have tp0 : True := trivial
  go_enter Try.func94, Try.ntmps94
  go_wp2_with (first
    | (go_skip)
    | (refine rosBox (.tmp 0) rfl rfl HL.out rfl ?_; intro w1 hk hb1 hz1; replace HB := Lib.hid (below_ext HB.out hb1); have K1 := Lib.hid hk; clear hk hb1)
    | (refine rosLoad (.tmp 1) rfl K1.out rfl rfl ?_)
    | (have _t := tp0; go_at_call 68; refine (H.out _).mono ?_; rintro e w2 ⟨rfl, hb2⟩; replace K1 := Lib.hid (K1.out.below hb2); replace HB := Lib.hid (below_ext HB.out hb2); have hz2 := hb2.size; clear hb2; have tp1 : True := trivial; clear _t tp0)
    | (have _t := tp1; go_at_call 92; refine (M.out _).mono ?_; rintro e w3 ⟨rfl, hb3⟩; replace K1 := Lib.hid (K1.out.below hb3); replace HB := Lib.hid (below_ext HB.out hb3); have hz3 := hb3.size; clear hb3; have tp2 : True := trivial; clear _t tp1)
    | (have _t := tp2; go_at_call 89; refine (Y.out _).mono ?_; rintro e w4 ⟨rfl, hb4⟩; replace K1 := Lib.hid (K1.out.below hb4); replace HB := Lib.hid (below_ext HB.out hb4); have hz4 := hb4.size; clear hb4; have tp3 : True := trivial; clear _t tp2)
    | (refine F.rowCell _ (.tmp 23) rfl K1.out.cgo rfl agg_bool rfl ?_)
    | (refine F.rowCell _ (.tmp 27) rfl K1.out.cgo rfl agg_bool rfl ?_))
  go_ret
  exact ⟨rfl, HB.out⟩
set_option maxRecDepth 100000 in
set_option maxHeartbeats 2000000 in
theorem New_A (m s r : Int) (P : Hid (∀ w : World, Calls Try.prog 126 #[geo m s r] w fun e w' => e = .returned (.bool false) ∧ Below w.heap.size w w')) (w : World) : Calls Try.prog 65 #[geo m s r] w fun e w' => e = .returned (.tuple #[ros ro0, .int .i64 2]) ∧ Below w.heap.size w w' := by
  have HB := Lib.hid (Below.refl w.heap.size w)
  unfold geo
  have tok0 : True := trivial
  have tp0 : True := trivial
  go_enter Try.func65, Try.ntmps65
  go_wp2_with (first
    | (go_skip)
    | (refine F.rowBox 68 (.tmp 0) rfl rfl rfl ?_; intro w1 hk hb1 hz1; replace HB := Lib.hid (below_ext HB.out hb1); have K1 := Lib.hid hk; clear hk hb1)
    | (have _t := tok0; refine rosAlloc rfl rfl ?_; intro w2 hk hb2 hz2; replace K1 := Lib.hid (K1.out.below hb2); replace HB := Lib.hid (below_ext HB.out hb2); have K2 := Lib.hid hk; clear hk hb2; have tok1 : True := trivial; clear _t tok0)
    | (refine F.rowLoad 68 (.tmp 1) rfl K1.out rfl Try.underlying68 rfl info_geo rfl ?_)
    | (have _t := tp0; go_at_call 126; refine (P.out _).mono ?_; rintro e w3 ⟨rfl, hb3⟩; replace K1 := Lib.hid (K1.out.below hb3); replace K2 := Lib.hid (K2.out.below hb3); replace HB := Lib.hid (below_ext HB.out hb3); have hz3 := hb3.size; clear hb3; have tp1 : True := trivial; clear _t tp0)
    | (refine rosBuild0 rfl rfl ?_)
    | (refine rosStore (.tmp 2) (.tmp 7) rfl K2.out rfl rfl zero16_length rfl ?_; intro w4 hk hg; replace HB := Lib.hid (below_at HB.out hg (by omega) K2.out.lt); replace K1 := Lib.hid (K1.out.grown hg (by omega)); replace K2 := Lib.hid hk; have hz4 := hg.size; clear hk hg))
  exact bodyPost_ret (v := .tuple #[ros ro0, .int .i64 2]) (ret_ros rfl _ _ K2.out rfl rfl) rfl ⟨rfl, HB.out⟩
set_option maxRecDepth 100000 in
set_option maxHeartbeats 2000000 in
theorem New_B (m s r : Int) (P : Hid (∀ w : World, Calls Try.prog 126 #[geo m s r] w fun e w' => e = .returned (.bool true) ∧ Below w.heap.size w w')) (w : World) : Calls Try.prog 65 #[geo m s r] w fun e w' => e = .returned (.tuple #[ros { ro0 with m := m, s := s, r := r }, .int .i64 0]) ∧ Below w.heap.size w w' := by
  have HB := Lib.hid (Below.refl w.heap.size w)
  unfold geo
  have tok0 : True := trivial
  have tp0 : True := trivial
  go_enter Try.func65, Try.ntmps65
  go_wp2_with (first
    | (go_skip)
    | (refine F.rowBox 68 (.tmp 0) rfl rfl rfl ?_; intro w1 hk hb1 hz1; replace HB := Lib.hid (below_ext HB.out hb1); have K1 := Lib.hid hk; clear hk hb1)
    | (have _t := tok0; refine rosAlloc rfl rfl ?_; intro w2 hk hb2 hz2; replace K1 := Lib.hid (K1.out.below hb2); replace HB := Lib.hid (below_ext HB.out hb2); have K2 := Lib.hid hk; clear hk hb2; have tok1 : True := trivial; clear _t tok0)
    | (refine F.rowLoad 68 (.tmp 1) rfl K1.out rfl Try.underlying68 rfl info_geo rfl ?_)
    | (have _t := tp0; go_at_call 126; refine (P.out _).mono ?_; rintro e w3 ⟨rfl, hb3⟩; replace K1 := Lib.hid (K1.out.below hb3); replace K2 := Lib.hid (K2.out.below hb3); replace HB := Lib.hid (below_ext HB.out hb3); have hz3 := hb3.size; clear hb3; have tp1 : True := trivial; clear _t tp0)
    | (refine rosBuildG (.tmp 8) rfl rfl rfl ?_)
    | (refine rosStore (.tmp 2) (.tmp 9) rfl K2.out rfl rfl zero16_length rfl ?_; intro w4 hk hg; replace HB := Lib.hid (below_at HB.out hg (by omega) K2.out.lt); replace K1 := Lib.hid (K1.out.grown hg (by omega)); replace K2 := Lib.hid hk; have hz4 := hg.size; clear hk hg))
  exact bodyPost_ret (v := .tuple #[ros { ro0 with m := m, s := s, r := r }, .int .i64 0]) (ret_ros rfl _ _ K2.out rfl rfl) rfl ⟨rfl, HB.out⟩
end Go.Proofs.Ytdchcggllcgokaa.Q
