/-
  ashlarlaw10.acts: what may be stays so.
-/
import Derived.Test.YtdchcggllcgokaaRos20
namespace Go.Proofs.Ytdchcggllcgokaa.Q
open Go.RowKit Go.Proofs.Ytdchcggllcgokaa.L Go.Proofs.Ytdchcggllcgokaa.R Go.Proofs.YtdchcggllcgokaaW.PrintWords
set_option linter.unusedVariables false
set_option linter.unusedSimpArgs false
theorem info_act : (Try.prog.info? 106).map (·.size) = some 3 := by kernel_rfl
theorem zero_act (w : World) : (zeroValue 106).run Try.prog w = .ok (.agg #[.int .i64 0, .int .i64 0, .bool false]) w := by kernel_rfl
theorem ones_act (d k : Int) (g : Bool) : (#[Value.int .i64 d, .int .i64 k, .bool g] : Array Value).all (·.oneCell') = true := by
  rw [Array.all_eq_true_iff_forall_mem]
  intro v hv
  simp at hv
  rcases hv with rfl | rfl | rfl <;> rfl
def act (d k : Int) (g : Bool) : Value := .agg #[.int .i64 d, .int .i64 k, .bool g]
set_option maxRecDepth 100000 in
set_option maxHeartbeats 2000000 in
theorem acts_A (x y : Ro) (HL : Hid (x.st.length = 16)) (HY : Hid (y.st.length = 16)) (d k : Int) (g : Bool) (h0 : d = 0) (b : Bool)
    (P : Hid (∀ w : World, Calls Try.prog 66 #[ros x, .int .i64 k] w fun e w' => e = .returned (.tuple #[ros y, .bool b]) ∧ Below w.heap.size w w')) (w : World) : Calls Try.prog 102 #[ros x, act d k g] w fun e w' => e = .returned (ros y) ∧ Below w.heap.size w w' := by
  have HB := Lib.hid (Below.refl w.heap.size w)
  unfold act
  have g0 : (d == 0) = true := by simpa using h0
  clear h0
  have tok0 : True := trivial
  have tp0 : True := trivial
  go_enter Try.func102, Try.ntmps102
  go_wp2_with (first
    | (go_skip)
    | (refine rosBox (.tmp 0) rfl rfl HL.out rfl ?_; intro w1 hk hb1 hz1; replace HB := Lib.hid (below_ext HB.out hb1); have K2 := Lib.hid hk; clear hk hb1)
    | (refine F.rowBox 106 (.tmp 1) rfl rfl rfl ?_; intro w2 hk hb2 hz2; replace K2 := Lib.hid (K2.out.below hb2); replace HB := Lib.hid (below_ext HB.out hb2); have K3 := Lib.hid hk; clear hk hb2)
    | (have _t := tok0; refine rosAlloc rfl rfl ?_; intro w3 hk hb3 hz3; replace K2 := Lib.hid (K2.out.below hb3); replace K3 := Lib.hid (K3.out.below hb3); replace HB := Lib.hid (below_ext HB.out hb3); have K4 := Lib.hid hk; clear hk hb3; have tok1 : True := trivial; clear _t tok0)
    | (refine rosLoad (.tmp 2) rfl K2.out rfl rfl ?_)
    | (have _t := tok1; refine rosAlloc rfl rfl ?_; intro w4 hk hb4 hz4; replace K2 := Lib.hid (K2.out.below hb4); replace K3 := Lib.hid (K3.out.below hb4); replace K4 := Lib.hid (K4.out.below hb4); replace HB := Lib.hid (below_ext HB.out hb4); have K5 := Lib.hid hk; clear hk hb4; have tok2 : True := trivial; clear _t tok1)
    | (refine rosStore (.tmp 5) (.tmp 7) rfl K5.out rfl rfl HL.out rfl ?_; intro w5 hk hg; replace HB := Lib.hid (below_at HB.out hg (by omega) K5.out.lt); replace K2 := Lib.hid (K2.out.grown hg (by omega)); replace K3 := Lib.hid (K3.out.grown hg (by omega)); replace K4 := Lib.hid (K4.out.grown hg (by omega)); replace K5 := Lib.hid hk; have hz5 := hg.size; clear hk hg)
    | (refine F.rowCell _ (.tmp 8) rfl (K3.out.cell (o := 0) rfl) rfl agg_int rfl ?_)
    | (refine F.rowCell _ (.tmp 21) rfl (K3.out.cell (o := 1) rfl) rfl agg_int rfl ?_)
    | (have _t := tp0; go_at_call 66; refine (P.out _).mono ?_; rintro e w6 ⟨rfl, hb6⟩; replace K2 := Lib.hid (K2.out.below hb6); replace K3 := Lib.hid (K3.out.below hb6); replace K4 := Lib.hid (K4.out.below hb6); replace K5 := Lib.hid (K5.out.below hb6); replace HB := Lib.hid (below_ext HB.out hb6); have hz6 := hb6.size; clear hb6; have tp1 : True := trivial; clear _t tp0)
    | (refine rosStore (.tmp 5) (.tmp 24) rfl K5.out rfl rfl HY.out rfl ?_; intro w7 hk hg; replace HB := Lib.hid (below_at HB.out hg (by omega) K5.out.lt); replace K2 := Lib.hid (K2.out.grown hg (by omega)); replace K3 := Lib.hid (K3.out.grown hg (by omega)); replace K4 := Lib.hid (K4.out.grown hg (by omega)); replace K5 := Lib.hid hk; have hz7 := hg.size; clear hk hg)
    | (refine rosLoad (.tmp 5) rfl K5.out rfl rfl ?_)
    | (refine rosStore (.tmp 4) (.tmp 45) rfl K4.out rfl rfl HY.out rfl ?_; intro w8 hk hg; replace HB := Lib.hid (below_at HB.out hg (by omega) K4.out.lt); replace K2 := Lib.hid (K2.out.grown hg (by omega)); replace K3 := Lib.hid (K3.out.grown hg (by omega)); replace K5 := Lib.hid (K5.out.grown hg (by omega)); replace K4 := Lib.hid hk; have hz8 := hg.size; clear hk hg))
  exact bodyPost_ret (v := ros y) (ret_ros1 rfl _ _ K4.out rfl) rfl ⟨rfl, HB.out⟩
set_option maxRecDepth 100000 in
set_option maxHeartbeats 2000000 in
theorem acts_B (x y : Ro) (HL : Hid (x.st.length = 16)) (HY : Hid (y.st.length = 16)) (d k : Int) (g : Bool) (h0 : ¬ d = 0) (h1 : d = 1) 
    (P : Hid (∀ w : World, Calls Try.prog 67 #[ros x, .int .i64 k] w fun e w' => e = .returned (.tuple #[ros y, .int .i64 0]) ∧ Below w.heap.size w w')) (w : World) : Calls Try.prog 102 #[ros x, act d k g] w fun e w' => e = .returned (ros y) ∧ Below w.heap.size w w' := by
  have HB := Lib.hid (Below.refl w.heap.size w)
  unfold act
  have g0 : (d == 0) = false := by simpa using h0
  have g1 : (d == 1) = true := by simpa using h1
  clear h0 h1
  have tok0 : True := trivial
  have tp0 : True := trivial
  go_enter Try.func102, Try.ntmps102
  go_wp2_with (first
    | (go_skip)
    | (refine rosBox (.tmp 0) rfl rfl HL.out rfl ?_; intro w1 hk hb1 hz1; replace HB := Lib.hid (below_ext HB.out hb1); have K2 := Lib.hid hk; clear hk hb1)
    | (refine F.rowBox 106 (.tmp 1) rfl rfl rfl ?_; intro w2 hk hb2 hz2; replace K2 := Lib.hid (K2.out.below hb2); replace HB := Lib.hid (below_ext HB.out hb2); have K3 := Lib.hid hk; clear hk hb2)
    | (have _t := tok0; refine rosAlloc rfl rfl ?_; intro w3 hk hb3 hz3; replace K2 := Lib.hid (K2.out.below hb3); replace K3 := Lib.hid (K3.out.below hb3); replace HB := Lib.hid (below_ext HB.out hb3); have K4 := Lib.hid hk; clear hk hb3; have tok1 : True := trivial; clear _t tok0)
    | (refine rosLoad (.tmp 2) rfl K2.out rfl rfl ?_)
    | (have _t := tok1; refine rosAlloc rfl rfl ?_; intro w4 hk hb4 hz4; replace K2 := Lib.hid (K2.out.below hb4); replace K3 := Lib.hid (K3.out.below hb4); replace K4 := Lib.hid (K4.out.below hb4); replace HB := Lib.hid (below_ext HB.out hb4); have K5 := Lib.hid hk; clear hk hb4; have tok2 : True := trivial; clear _t tok1)
    | (refine rosStore (.tmp 5) (.tmp 7) rfl K5.out rfl rfl HL.out rfl ?_; intro w5 hk hg; replace HB := Lib.hid (below_at HB.out hg (by omega) K5.out.lt); replace K2 := Lib.hid (K2.out.grown hg (by omega)); replace K3 := Lib.hid (K3.out.grown hg (by omega)); replace K4 := Lib.hid (K4.out.grown hg (by omega)); replace K5 := Lib.hid hk; have hz5 := hg.size; clear hk hg)
    | (refine F.rowCell _ (.tmp 8) rfl (K3.out.cell (o := 0) rfl) rfl agg_int rfl ?_)
    | (refine F.rowCell _ (.tmp 30) rfl (K3.out.cell (o := 1) rfl) rfl agg_int rfl ?_)
    | (have _t := tp0; go_at_call 67; refine (P.out _).mono ?_; rintro e w6 ⟨rfl, hb6⟩; replace K2 := Lib.hid (K2.out.below hb6); replace K3 := Lib.hid (K3.out.below hb6); replace K4 := Lib.hid (K4.out.below hb6); replace K5 := Lib.hid (K5.out.below hb6); replace HB := Lib.hid (below_ext HB.out hb6); have hz6 := hb6.size; clear hb6; have tp1 : True := trivial; clear _t tp0)
    | (refine rosStore (.tmp 5) (.tmp 33) rfl K5.out rfl rfl HY.out rfl ?_; intro w7 hk hg; replace HB := Lib.hid (below_at HB.out hg (by omega) K5.out.lt); replace K2 := Lib.hid (K2.out.grown hg (by omega)); replace K3 := Lib.hid (K3.out.grown hg (by omega)); replace K4 := Lib.hid (K4.out.grown hg (by omega)); replace K5 := Lib.hid hk; have hz7 := hg.size; clear hk hg)
    | (refine rosLoad (.tmp 5) rfl K5.out rfl rfl ?_)
    | (refine rosStore (.tmp 4) (.tmp 45) rfl K4.out rfl rfl HY.out rfl ?_; intro w8 hk hg; replace HB := Lib.hid (below_at HB.out hg (by omega) K4.out.lt); replace K2 := Lib.hid (K2.out.grown hg (by omega)); replace K3 := Lib.hid (K3.out.grown hg (by omega)); replace K5 := Lib.hid (K5.out.grown hg (by omega)); replace K4 := Lib.hid hk; have hz8 := hg.size; clear hk hg))
  exact bodyPost_ret (v := ros y) (ret_ros1 rfl _ _ K4.out rfl) rfl ⟨rfl, HB.out⟩
set_option maxRecDepth 100000 in
set_option maxHeartbeats 2000000 in
theorem acts_C (x y : Ro) (HL : Hid (x.st.length = 16)) (HY : Hid (y.st.length = 16)) (d k : Int) (g : Bool) (h0 : ¬ d = 0) (h1 : d = 1) (er : Int) (he : (er != 0) = true)
    (P : Hid (∀ w : World, Calls Try.prog 67 #[ros x, .int .i64 k] w fun e w' => e = .returned (.tuple #[ros y, .int .i64 er]) ∧ Below w.heap.size w w')) (w : World) : Calls Try.prog 102 #[ros x, act d k g] w fun e w' => e = .returned (ros x) ∧ Below w.heap.size w w' := by
  have HB := Lib.hid (Below.refl w.heap.size w)
  unfold act
  have g0 : (d == 0) = false := by simpa using h0
  have g1 : (d == 1) = true := by simpa using h1
  clear h0 h1
  have tok0 : True := trivial
  have tp0 : True := trivial
  go_enter Try.func102, Try.ntmps102
  go_wp2_with (first
    | (go_skip)
    | (refine rosBox (.tmp 0) rfl rfl HL.out rfl ?_; intro w1 hk hb1 hz1; replace HB := Lib.hid (below_ext HB.out hb1); have K2 := Lib.hid hk; clear hk hb1)
    | (refine F.rowBox 106 (.tmp 1) rfl rfl rfl ?_; intro w2 hk hb2 hz2; replace K2 := Lib.hid (K2.out.below hb2); replace HB := Lib.hid (below_ext HB.out hb2); have K3 := Lib.hid hk; clear hk hb2)
    | (have _t := tok0; refine rosAlloc rfl rfl ?_; intro w3 hk hb3 hz3; replace K2 := Lib.hid (K2.out.below hb3); replace K3 := Lib.hid (K3.out.below hb3); replace HB := Lib.hid (below_ext HB.out hb3); have K4 := Lib.hid hk; clear hk hb3; have tok1 : True := trivial; clear _t tok0)
    | (refine rosLoad (.tmp 2) rfl K2.out rfl rfl ?_)
    | (have _t := tok1; refine rosAlloc rfl rfl ?_; intro w4 hk hb4 hz4; replace K2 := Lib.hid (K2.out.below hb4); replace K3 := Lib.hid (K3.out.below hb4); replace K4 := Lib.hid (K4.out.below hb4); replace HB := Lib.hid (below_ext HB.out hb4); have K5 := Lib.hid hk; clear hk hb4; have tok2 : True := trivial; clear _t tok1)
    | (refine rosStore (.tmp 5) (.tmp 7) rfl K5.out rfl rfl HL.out rfl ?_; intro w5 hk hg; replace HB := Lib.hid (below_at HB.out hg (by omega) K5.out.lt); replace K2 := Lib.hid (K2.out.grown hg (by omega)); replace K3 := Lib.hid (K3.out.grown hg (by omega)); replace K4 := Lib.hid (K4.out.grown hg (by omega)); replace K5 := Lib.hid hk; have hz5 := hg.size; clear hk hg)
    | (refine F.rowCell _ (.tmp 8) rfl (K3.out.cell (o := 0) rfl) rfl agg_int rfl ?_)
    | (refine F.rowCell _ (.tmp 30) rfl (K3.out.cell (o := 1) rfl) rfl agg_int rfl ?_)
    | (have _t := tp0; go_at_call 67; refine (P.out _).mono ?_; rintro e w6 ⟨rfl, hb6⟩; replace K2 := Lib.hid (K2.out.below hb6); replace K3 := Lib.hid (K3.out.below hb6); replace K4 := Lib.hid (K4.out.below hb6); replace K5 := Lib.hid (K5.out.below hb6); replace HB := Lib.hid (below_ext HB.out hb6); have hz6 := hb6.size; clear hb6; have tp1 : True := trivial; clear _t tp0)
    | (refine rosStore (.tmp 5) (.tmp 33) rfl K5.out rfl rfl HY.out rfl ?_; intro w7 hk hg; replace HB := Lib.hid (below_at HB.out hg (by omega) K5.out.lt); replace K2 := Lib.hid (K2.out.grown hg (by omega)); replace K3 := Lib.hid (K3.out.grown hg (by omega)); replace K4 := Lib.hid (K4.out.grown hg (by omega)); replace K5 := Lib.hid hk; have hz7 := hg.size; clear hk hg)
    | (refine rosStore (.tmp 4) (.tmp 44) rfl K4.out rfl rfl HL.out rfl ?_; intro w8 hk hg; replace HB := Lib.hid (below_at HB.out hg (by omega) K4.out.lt); replace K2 := Lib.hid (K2.out.grown hg (by omega)); replace K3 := Lib.hid (K3.out.grown hg (by omega)); replace K5 := Lib.hid (K5.out.grown hg (by omega)); replace K4 := Lib.hid hk; have hz8 := hg.size; clear hk hg))
  exact bodyPost_ret (v := ros x) (ret_ros1 rfl _ _ K4.out rfl) rfl ⟨rfl, HB.out⟩
set_option maxRecDepth 100000 in
set_option maxHeartbeats 2000000 in
theorem acts_D (x y : Ro) (HL : Hid (x.st.length = 16)) (HY : Hid (y.st.length = 16)) (d k : Int) (g : Bool) (h0 : ¬ d = 0) (h1 : ¬ d = 1) (h2 : d = 2) 
    (P : Hid (∀ w : World, Calls Try.prog 69 #[ros x] w fun e w' => e = .returned (.tuple #[ros y, .int .i64 0]) ∧ Below w.heap.size w w')) (w : World) : Calls Try.prog 102 #[ros x, act d k g] w fun e w' => e = .returned (ros y) ∧ Below w.heap.size w w' := by
  have HB := Lib.hid (Below.refl w.heap.size w)
  unfold act
  have g0 : (d == 0) = false := by simpa using h0
  have g1 : (d == 1) = false := by simpa using h1
  have g2 : (d == 2) = true := by simpa using h2
  clear h0 h1 h2
  have tok0 : True := trivial
  have tp0 : True := trivial
  go_enter Try.func102, Try.ntmps102
  go_wp2_with (first
    | (go_skip)
    | (refine rosBox (.tmp 0) rfl rfl HL.out rfl ?_; intro w1 hk hb1 hz1; replace HB := Lib.hid (below_ext HB.out hb1); have K2 := Lib.hid hk; clear hk hb1)
    | (refine F.rowBox 106 (.tmp 1) rfl rfl rfl ?_; intro w2 hk hb2 hz2; replace K2 := Lib.hid (K2.out.below hb2); replace HB := Lib.hid (below_ext HB.out hb2); have K3 := Lib.hid hk; clear hk hb2)
    | (have _t := tok0; refine rosAlloc rfl rfl ?_; intro w3 hk hb3 hz3; replace K2 := Lib.hid (K2.out.below hb3); replace K3 := Lib.hid (K3.out.below hb3); replace HB := Lib.hid (below_ext HB.out hb3); have K4 := Lib.hid hk; clear hk hb3; have tok1 : True := trivial; clear _t tok0)
    | (refine rosLoad (.tmp 2) rfl K2.out rfl rfl ?_)
    | (have _t := tok1; refine rosAlloc rfl rfl ?_; intro w4 hk hb4 hz4; replace K2 := Lib.hid (K2.out.below hb4); replace K3 := Lib.hid (K3.out.below hb4); replace K4 := Lib.hid (K4.out.below hb4); replace HB := Lib.hid (below_ext HB.out hb4); have K5 := Lib.hid hk; clear hk hb4; have tok2 : True := trivial; clear _t tok1)
    | (refine rosStore (.tmp 5) (.tmp 7) rfl K5.out rfl rfl HL.out rfl ?_; intro w5 hk hg; replace HB := Lib.hid (below_at HB.out hg (by omega) K5.out.lt); replace K2 := Lib.hid (K2.out.grown hg (by omega)); replace K3 := Lib.hid (K3.out.grown hg (by omega)); replace K4 := Lib.hid (K4.out.grown hg (by omega)); replace K5 := Lib.hid hk; have hz5 := hg.size; clear hk hg)
    | (refine F.rowCell _ (.tmp 8) rfl (K3.out.cell (o := 0) rfl) rfl agg_int rfl ?_)
    | (have _t := tp0; go_at_call 69; refine (P.out _).mono ?_; rintro e w6 ⟨rfl, hb6⟩; replace K2 := Lib.hid (K2.out.below hb6); replace K3 := Lib.hid (K3.out.below hb6); replace K4 := Lib.hid (K4.out.below hb6); replace K5 := Lib.hid (K5.out.below hb6); replace HB := Lib.hid (below_ext HB.out hb6); have hz6 := hb6.size; clear hb6; have tp1 : True := trivial; clear _t tp0)
    | (refine rosStore (.tmp 5) (.tmp 40) rfl K5.out rfl rfl HY.out rfl ?_; intro w7 hk hg; replace HB := Lib.hid (below_at HB.out hg (by omega) K5.out.lt); replace K2 := Lib.hid (K2.out.grown hg (by omega)); replace K3 := Lib.hid (K3.out.grown hg (by omega)); replace K4 := Lib.hid (K4.out.grown hg (by omega)); replace K5 := Lib.hid hk; have hz7 := hg.size; clear hk hg)
    | (refine rosLoad (.tmp 5) rfl K5.out rfl rfl ?_)
    | (refine rosStore (.tmp 4) (.tmp 45) rfl K4.out rfl rfl HY.out rfl ?_; intro w8 hk hg; replace HB := Lib.hid (below_at HB.out hg (by omega) K4.out.lt); replace K2 := Lib.hid (K2.out.grown hg (by omega)); replace K3 := Lib.hid (K3.out.grown hg (by omega)); replace K5 := Lib.hid (K5.out.grown hg (by omega)); replace K4 := Lib.hid hk; have hz8 := hg.size; clear hk hg))
  exact bodyPost_ret (v := ros y) (ret_ros1 rfl _ _ K4.out rfl) rfl ⟨rfl, HB.out⟩
set_option maxRecDepth 100000 in
set_option maxHeartbeats 2000000 in
theorem acts_E (x y : Ro) (HL : Hid (x.st.length = 16)) (HY : Hid (y.st.length = 16)) (d k : Int) (g : Bool) (h0 : ¬ d = 0) (h1 : ¬ d = 1) (h2 : d = 2) (er : Int) (he : (er != 0) = true)
    (P : Hid (∀ w : World, Calls Try.prog 69 #[ros x] w fun e w' => e = .returned (.tuple #[ros y, .int .i64 er]) ∧ Below w.heap.size w w')) (w : World) : Calls Try.prog 102 #[ros x, act d k g] w fun e w' => e = .returned (ros x) ∧ Below w.heap.size w w' := by
  have HB := Lib.hid (Below.refl w.heap.size w)
  unfold act
  have g0 : (d == 0) = false := by simpa using h0
  have g1 : (d == 1) = false := by simpa using h1
  have g2 : (d == 2) = true := by simpa using h2
  clear h0 h1 h2
  have tok0 : True := trivial
  have tp0 : True := trivial
  go_enter Try.func102, Try.ntmps102
  go_wp2_with (first
    | (go_skip)
    | (refine rosBox (.tmp 0) rfl rfl HL.out rfl ?_; intro w1 hk hb1 hz1; replace HB := Lib.hid (below_ext HB.out hb1); have K2 := Lib.hid hk; clear hk hb1)
    | (refine F.rowBox 106 (.tmp 1) rfl rfl rfl ?_; intro w2 hk hb2 hz2; replace K2 := Lib.hid (K2.out.below hb2); replace HB := Lib.hid (below_ext HB.out hb2); have K3 := Lib.hid hk; clear hk hb2)
    | (have _t := tok0; refine rosAlloc rfl rfl ?_; intro w3 hk hb3 hz3; replace K2 := Lib.hid (K2.out.below hb3); replace K3 := Lib.hid (K3.out.below hb3); replace HB := Lib.hid (below_ext HB.out hb3); have K4 := Lib.hid hk; clear hk hb3; have tok1 : True := trivial; clear _t tok0)
    | (refine rosLoad (.tmp 2) rfl K2.out rfl rfl ?_)
    | (have _t := tok1; refine rosAlloc rfl rfl ?_; intro w4 hk hb4 hz4; replace K2 := Lib.hid (K2.out.below hb4); replace K3 := Lib.hid (K3.out.below hb4); replace K4 := Lib.hid (K4.out.below hb4); replace HB := Lib.hid (below_ext HB.out hb4); have K5 := Lib.hid hk; clear hk hb4; have tok2 : True := trivial; clear _t tok1)
    | (refine rosStore (.tmp 5) (.tmp 7) rfl K5.out rfl rfl HL.out rfl ?_; intro w5 hk hg; replace HB := Lib.hid (below_at HB.out hg (by omega) K5.out.lt); replace K2 := Lib.hid (K2.out.grown hg (by omega)); replace K3 := Lib.hid (K3.out.grown hg (by omega)); replace K4 := Lib.hid (K4.out.grown hg (by omega)); replace K5 := Lib.hid hk; have hz5 := hg.size; clear hk hg)
    | (refine F.rowCell _ (.tmp 8) rfl (K3.out.cell (o := 0) rfl) rfl agg_int rfl ?_)
    | (have _t := tp0; go_at_call 69; refine (P.out _).mono ?_; rintro e w6 ⟨rfl, hb6⟩; replace K2 := Lib.hid (K2.out.below hb6); replace K3 := Lib.hid (K3.out.below hb6); replace K4 := Lib.hid (K4.out.below hb6); replace K5 := Lib.hid (K5.out.below hb6); replace HB := Lib.hid (below_ext HB.out hb6); have hz6 := hb6.size; clear hb6; have tp1 : True := trivial; clear _t tp0)
    | (refine rosStore (.tmp 5) (.tmp 40) rfl K5.out rfl rfl HY.out rfl ?_; intro w7 hk hg; replace HB := Lib.hid (below_at HB.out hg (by omega) K5.out.lt); replace K2 := Lib.hid (K2.out.grown hg (by omega)); replace K3 := Lib.hid (K3.out.grown hg (by omega)); replace K4 := Lib.hid (K4.out.grown hg (by omega)); replace K5 := Lib.hid hk; have hz7 := hg.size; clear hk hg)
    | (refine rosStore (.tmp 4) (.tmp 44) rfl K4.out rfl rfl HL.out rfl ?_; intro w8 hk hg; replace HB := Lib.hid (below_at HB.out hg (by omega) K4.out.lt); replace K2 := Lib.hid (K2.out.grown hg (by omega)); replace K3 := Lib.hid (K3.out.grown hg (by omega)); replace K5 := Lib.hid (K5.out.grown hg (by omega)); replace K4 := Lib.hid hk; have hz8 := hg.size; clear hk hg))
  exact bodyPost_ret (v := ros x) (ret_ros1 rfl _ _ K4.out rfl) rfl ⟨rfl, HB.out⟩
set_option maxRecDepth 100000 in
set_option maxHeartbeats 2000000 in
theorem acts_F (x y : Ro) (HL : Hid (x.st.length = 16)) (HY : Hid (y.st.length = 16)) (d k : Int) (g : Bool) (h0 : ¬ d = 0) (h1 : ¬ d = 1) (h2 : ¬ d = 2) 
    (P : Hid (∀ w : World, Calls Try.prog 100 #[ros x, .bool g] w fun e w' => e = .returned (.tuple #[ros y, .int .i64 0]) ∧ Below w.heap.size w w')) (w : World) : Calls Try.prog 102 #[ros x, act d k g] w fun e w' => e = .returned (ros y) ∧ Below w.heap.size w w' := by
  have HB := Lib.hid (Below.refl w.heap.size w)
  unfold act
  have g0 : (d == 0) = false := by simpa using h0
  have g1 : (d == 1) = false := by simpa using h1
  have g2 : (d == 2) = false := by simpa using h2
  clear h0 h1 h2
  have tok0 : True := trivial
  have tp0 : True := trivial
  go_enter Try.func102, Try.ntmps102
  go_wp2_with (first
    | (go_skip)
    | (refine rosBox (.tmp 0) rfl rfl HL.out rfl ?_; intro w1 hk hb1 hz1; replace HB := Lib.hid (below_ext HB.out hb1); have K2 := Lib.hid hk; clear hk hb1)
    | (refine F.rowBox 106 (.tmp 1) rfl rfl rfl ?_; intro w2 hk hb2 hz2; replace K2 := Lib.hid (K2.out.below hb2); replace HB := Lib.hid (below_ext HB.out hb2); have K3 := Lib.hid hk; clear hk hb2)
    | (have _t := tok0; refine rosAlloc rfl rfl ?_; intro w3 hk hb3 hz3; replace K2 := Lib.hid (K2.out.below hb3); replace K3 := Lib.hid (K3.out.below hb3); replace HB := Lib.hid (below_ext HB.out hb3); have K4 := Lib.hid hk; clear hk hb3; have tok1 : True := trivial; clear _t tok0)
    | (refine rosLoad (.tmp 2) rfl K2.out rfl rfl ?_)
    | (have _t := tok1; refine rosAlloc rfl rfl ?_; intro w4 hk hb4 hz4; replace K2 := Lib.hid (K2.out.below hb4); replace K3 := Lib.hid (K3.out.below hb4); replace K4 := Lib.hid (K4.out.below hb4); replace HB := Lib.hid (below_ext HB.out hb4); have K5 := Lib.hid hk; clear hk hb4; have tok2 : True := trivial; clear _t tok1)
    | (refine rosStore (.tmp 5) (.tmp 7) rfl K5.out rfl rfl HL.out rfl ?_; intro w5 hk hg; replace HB := Lib.hid (below_at HB.out hg (by omega) K5.out.lt); replace K2 := Lib.hid (K2.out.grown hg (by omega)); replace K3 := Lib.hid (K3.out.grown hg (by omega)); replace K4 := Lib.hid (K4.out.grown hg (by omega)); replace K5 := Lib.hid hk; have hz5 := hg.size; clear hk hg)
    | (refine F.rowCell _ (.tmp 8) rfl (K3.out.cell (o := 0) rfl) rfl agg_int rfl ?_)
    | (refine F.rowCell _ (.tmp 12) rfl (K3.out.cell (o := 2) rfl) rfl agg_bool rfl ?_)
    | (have _t := tp0; go_at_call 100; refine (P.out _).mono ?_; rintro e w6 ⟨rfl, hb6⟩; replace K2 := Lib.hid (K2.out.below hb6); replace K3 := Lib.hid (K3.out.below hb6); replace K4 := Lib.hid (K4.out.below hb6); replace K5 := Lib.hid (K5.out.below hb6); replace HB := Lib.hid (below_ext HB.out hb6); have hz6 := hb6.size; clear hb6; have tp1 : True := trivial; clear _t tp0)
    | (refine rosStore (.tmp 5) (.tmp 15) rfl K5.out rfl rfl HY.out rfl ?_; intro w7 hk hg; replace HB := Lib.hid (below_at HB.out hg (by omega) K5.out.lt); replace K2 := Lib.hid (K2.out.grown hg (by omega)); replace K3 := Lib.hid (K3.out.grown hg (by omega)); replace K4 := Lib.hid (K4.out.grown hg (by omega)); replace K5 := Lib.hid hk; have hz7 := hg.size; clear hk hg)
    | (refine rosLoad (.tmp 5) rfl K5.out rfl rfl ?_)
    | (refine rosStore (.tmp 4) (.tmp 45) rfl K4.out rfl rfl HY.out rfl ?_; intro w8 hk hg; replace HB := Lib.hid (below_at HB.out hg (by omega) K4.out.lt); replace K2 := Lib.hid (K2.out.grown hg (by omega)); replace K3 := Lib.hid (K3.out.grown hg (by omega)); replace K5 := Lib.hid (K5.out.grown hg (by omega)); replace K4 := Lib.hid hk; have hz8 := hg.size; clear hk hg))
  exact bodyPost_ret (v := ros y) (ret_ros1 rfl _ _ K4.out rfl) rfl ⟨rfl, HB.out⟩
theorem may_c2 {x : Ro} (h : mayR x = true) : cnt x.st 2 16 = 1 ∨ (cnt x.st 2 16 = 0 ∧ x.cu = 0) := ((mayR_iff x).1 h).2.2.2.2
theorem may_lose {x : Ro} (hx : Wf x) (h : mayR x = true) (k : Int) : Wf (loseR x k).1 ∧ mayR (loseR x k).1 = true ∧ (loseR x k).1.m = x.m := by
  have hc := may_c2 h
  have hm := may_m h
  unfold loseR
  split
  · next hmem =>
    obtain ⟨i, rfl, hi, him, -⟩ := memR_nat hmem
    rw [Int.toNat_natCast]
    have e := cnt_set16 hx.1 hi 1 2
    split
    · next h2 =>
      rw [if_pos h2, if_neg (by decide)] at e
      exact ⟨hx.set i (v := 1) rfl 0 x.go, may_set hx h hi him (v := 1) (by decide) 0 x.go (by decide) (by omega) (.inr ⟨by omega, rfl⟩), rfl⟩
    · next h2 =>
      rw [if_neg h2, if_neg (by decide)] at e
      exact ⟨hx.set i (v := 1) rfl x.cu x.go, may_set hx h hi him (v := 1) (by decide) x.cu x.go hm.2.2.2.2.1 hm.2.2.2.2.2 (by rcases hc with hc | hc; exact .inl (by omega); exact .inr ⟨by omega, hc.2⟩), rfl⟩
  · exact ⟨hx, h, rfl⟩
theorem cnt_pos {l : List Int} {i : Nat} {v : Int} (hi : i < 16) (h : rd l (i : Int) = v) : 1 ≤ cnt l v 16 := by
  rcases Nat.eq_zero_or_pos (cnt l v 16) with h0 | h0
  · exact absurd h ((cnt_none l v 16).1 h0 i hi)
  · exact h0
theorem acts_any (x : Ro) (hx : Wf x) (h : mayR x = true) (d k : Int) (g : Bool) : ∃ y : Ro, Wf y ∧ mayR y = true ∧ y.m = x.m ∧ ∀ w : World, Calls Try.prog 102 #[ros x, act d k g] w fun e w' => e = .returned (ros y) ∧ Below w.heap.size w w' := by
  have hl := Lib.hid hx.1
  have hmm := may_m h
  have hs := may_sum hx h
  by_cases h0 : d = 0
  · obtain ⟨q1, q2, q3⟩ := may_lose hx h k
    exact ⟨_, q1, q2, q3, fun w => acts_A x _ hl (Lib.hid q1.1) d k g h0 _ (Lib.hid fun w => Lose_any x hx k w) w⟩
  by_cases h1 : d = 1
  · by_cases hb : memR x k = true ∧ (rd x.st k = 1 ∧ missR x ≤ 1 ∧ x.go = false)
    · obtain ⟨hb1, hb2⟩ := hb
      obtain ⟨i, rfl, hi, him, -⟩ := memR_nat hb1
      have p := fun w => Begin_any x hx i w
      rw [beginR, if_pos hb1, if_pos hb2, Int.toNat_natCast] at p
      have hms := hb2.2.1
      rw [missR_is h] at hms
      have e1 := cnt_pos hi hb2.1
      have e2 := cnt_set16 hx.1 hi 2 2
      rw [if_neg (by rw [hb2.1]; decide), if_pos rfl] at e2
      have w1 : Wf { x with st := x.st.set i 2, cu := 0 } := hx.set i (v := 2) rfl 0 x.go
      exact ⟨_, w1, may_set hx h hi him (v := 2) (by decide) 0 x.go (by decide) (by omega) (.inl (by omega)), rfl, fun w => acts_B x _ hl (Lib.hid w1.1) d i g h0 h1 (Lib.hid p) w⟩
    · have p := fun w => Begin_any x hx k w
      have he : (beginR x k).2 ≠ 0 := by
        unfold beginR
        split
        · next q1 =>
          split
          · next q2 => exact absurd ⟨q1, q2⟩ hb
          · decide
        · decide
      have hyl : (beginR x k).1.st.length = 16 := by
        unfold beginR
        split
        · split
          · show (x.st.set _ _).length = 16; rw [List.length_set]; exact hx.1
          · rfl
        · rfl
      exact ⟨x, hx, h, rfl, fun w => acts_C x _ hl (Lib.hid hyl) d k g h0 h1 _ (bne_iff_ne.2 he) (Lib.hid p) w⟩
  by_cases h2 : d = 2
  · obtain ⟨y, e, hy, p, -, hq⟩ := Next_same x hx
    rcases hq with ⟨q, -⟩ | ⟨-, -, rfl, rfl⟩ | ⟨-, rfl, i, hi, hi2, hq⟩
    · rw [h] at q; exact Bool.noConfusion q
    · exact ⟨x, hx, h, rfl, fun w => acts_E x _ hl (Lib.hid hy.1) d k g h0 h1 h2 17 rfl (Lib.hid p) w⟩
    · have e1 := cnt_pos hi hi2
      have hc := may_c2 h
      have him : (i : Int) < x.m := by
        rcases Int.lt_or_le (i : Int) x.m with q | q
        · exact q
        · have := (((mayR_iff x).1 h).2.2.2.1 i hi).2 q
          rw [hi2] at this; exact absurd this (by decide)
      rcases hq with ⟨q, rfl⟩ | ⟨q, rfl⟩
      · have e2 := cnt_set16 hx.1 hi 0 2
        rw [if_pos hi2, if_neg (by decide)] at e2
        exact ⟨_, hy, may_set hx h hi him (v := 0) (by decide) 0 x.go (by decide) (by omega) (.inr ⟨by omega, rfl⟩), rfl, fun w => acts_D x _ hl (Lib.hid hy.1) d k g h0 h1 h2 (Lib.hid p) w⟩
      · exact ⟨_, hy, may_keep h (x.cu + 1) x.go (by omega) (by omega) (.inl (by omega)), rfl, fun w => acts_D x _ hl (Lib.hid hy.1) d k g h0 h1 h2 (Lib.hid p) w⟩
  · have p := fun w => Gone_any x hx g w
    rw [goneR, if_pos h] at p
    exact ⟨{ x with go := g }, ⟨hx.1, hx.2⟩, may_keep h x.cu g hmm.2.2.2.2.1 hmm.2.2.2.2.2 (may_c2 h), rfl, fun w => acts_F x { x with go := g } hl hl d k g h0 h1 h2 (Lib.hid p) w⟩
end Go.Proofs.Ytdchcggllcgokaa.Q
