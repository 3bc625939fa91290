/-
  ashlarlaw10.two, geo, lives: the walks; plain laws of counts.
-/
import Derived.Test.YtdchcggllcgokaaRos18
namespace Go.Proofs.Ytdchcggllcgokaa.Q
open Go.RowKit Go.Proofs.Ytdchcggllcgokaa.L Go.Proofs.Ytdchcggllcgokaa.R Go.Proofs.YtdchcggllcgokaaW.PrintWords
set_option linter.unusedVariables false
set_option linter.unusedSimpArgs false
theorem cnt_set {l : List Int} (hl : l.length = 16) {i : Nat} (hi : i < 16) (v u : Int) : ∀ q : Nat, cnt (l.set i v) u q + (if i < q ∧ rd l (i : Int) = u then 1 else 0) = cnt l u q + (if i < q ∧ v = u then 1 else 0)
  | 0 => by simp [cnt_0]
  | q + 1 => by
    have ih := cnt_set hl hi v u q
    rw [cnt_succ, cnt_succ, rd_set (by omega)]
    rcases Nat.lt_trichotomy i q with h | h | h
    · have e1 : i < q + 1 := by omega
      simp only [h, e1, true_and] at ih ⊢
      rw [if_neg (show ¬ q = i by omega)]
      omega
    · subst h
      have e0 : ¬ i < i := by omega
      have e1 : i < i + 1 := by omega
      simp only [e0, e1, true_and, false_and, if_false, if_true, Nat.add_zero] at ih ⊢
      omega
    · have e0 : ¬ i < q := by omega
      have e1 : ¬ i < q + 1 := by omega
      simp only [e0, e1, false_and, if_false, Nat.add_zero] at ih ⊢
      rw [if_neg (show ¬ q = i by omega)]
      omega
theorem cnt_set16 {l : List Int} (hl : l.length = 16) {i : Nat} (hi : i < 16) (v u : Int) : cnt (l.set i v) u 16 + (if rd l (i : Int) = u then 1 else 0) = cnt l u 16 + (if v = u then 1 else 0) := by
  have h := cnt_set hl hi v u 16
  simp only [hi, true_and] at h
  exact h
theorem may_sum {x : Ro} (hx : Wf x) (h : mayR x = true) : cnt x.st 0 16 + cnt x.st 1 16 + cnt x.st 2 16 = 16 :=
  (cnt_all hx 16).2.2 fun i hi => (((mayR_iff x).1 h).2.2.2.1 i hi).1
theorem missR_is {x : Ro} (h : mayR x = true) : missR x = 16 - cnt x.st 0 16 := by rw [missR, if_pos h]
/-- setting a state below the members keeps what may be -/
theorem may_set {x : Ro} (hx : Wf x) (h : mayR x = true) {k : Nat} (hk : k < 16) (hm : (k : Int) < x.m) {v : Int} (hv : v ≤ 2) (cu : Int) (go : Bool) (h0 : 0 ≤ cu) (h1 : cu < x.s)
    (hc : cnt (x.st.set k v) 2 16 = 1 ∨ (cnt (x.st.set k v) 2 16 = 0 ∧ cu = 0)) : mayR { x with st := x.st.set k v, cu := cu, go := go } = true := by
  rw [mayR_iff] at h ⊢
  obtain ⟨a, -, -, b, -⟩ := h
  refine ⟨a, h0, h1, fun i hi => ?_, hc⟩
  show rd (x.st.set k v) (i : Int) ≤ 2 ∧ (x.m ≤ (i : Int) → rd (x.st.set k v) (i : Int) = 0)
  rw [rd_set (by rw [hx.1]; exact hk)]
  by_cases e : i = k
  · rw [if_pos e]; exact ⟨hv, fun h2 => by omega⟩
  · rw [if_neg e]; exact b i hi
theorem may_keep {x : Ro} (h : mayR x = true) (cu : Int) (go : Bool) (h0 : 0 ≤ cu) (h1 : cu < x.s) (hc : cnt x.st 2 16 = 1 ∨ (cnt x.st 2 16 = 0 ∧ cu = 0)) : mayR { x with cu := cu, go := go } = true := by
  rw [mayR_iff] at h ⊢
  exact ⟨h.1, h0, h1, h.2.2.2.1, hc⟩
theorem ret_ros1 {fn : Func} {p : Tmp} (h : fn.results = #[.cell p 72]) (tmps : Array Value) (w : World) {g : Nat} {x : Ro} (hk : Ros w g x) (hp : tmps.getD p undef = .pointer (some ⟨g, 0, none⟩)) :
    (results fn tmps).run Try.prog w = .ok (ros x) w :=
  results_cell_row h tmps w g _ _ (0, 0) _ hp hk.2 Try.underlying72 rfl (info_of_ros hk.1)
theorem stateR_of {x : Ro} (h : mayR x = true) {n : Nat} (hm : missR x = n) {d : Nat} (hc : cnt x.st 2 16 = d) : stateR x = if 1 < n then 5 else if n = 1 then (if x.go = true then 5 else if d = 0 then 2 else 3) else (if x.go = true then 4 else if d = 0 then 1 else 3) := by
  unfold stateR
  rw [if_pos h, hm, hc]
set_option maxRecDepth 100000 in
set_option maxHeartbeats 2000000 in
theorem two_walk (x : Ro) (HL : Hid (x.st.length = 16)) (P : Hid (∀ w : World, Calls Try.prog 65 #[geo 3 2 40] w fun e w' => e = .returned (.tuple #[ros x, .int .i64 0]) ∧ Below w.heap.size w w')) (w : World) : Calls Try.prog 128 #[] w fun e w' => e = .returned (ros x) ∧ Below w.heap.size w w' := by
  have HB := Lib.hid (Below.refl w.heap.size w)
  have tok0 : True := trivial
  have tp0 : True := trivial
  go_enter Try.func128, Try.ntmps128
  go_wp2_with (first
    | (go_skip)
    | (have _t := tok0; refine rosAlloc rfl rfl ?_; intro w1 hk hb1 hz1; replace HB := Lib.hid (below_ext HB.out hb1); have K0 := Lib.hid hk; clear hk hb1; have tok1 : True := trivial; clear _t tok0)
    | (have _t := tp0; go_at_call 65; refine (P.out _).mono ?_; rintro e w2 ⟨rfl, hb2⟩; replace K0 := Lib.hid (K0.out.below hb2); replace HB := Lib.hid (below_ext HB.out hb2); have hz2 := hb2.size; clear hb2; have tp1 : True := trivial; clear _t tp0)
    | (have _t := tok1; refine rosAlloc rfl rfl ?_; intro w3 hk hb3 hz3; replace K0 := Lib.hid (K0.out.below hb3); replace HB := Lib.hid (below_ext HB.out hb3); have K1 := Lib.hid hk; clear hk hb3; have tok2 : True := trivial; clear _t tok1)
    | (refine rosStore (.tmp 1) (.tmp 6) rfl K1.out rfl rfl HL.out rfl ?_; intro w4 hk hg; replace HB := Lib.hid (below_at HB.out hg (by omega) K1.out.lt); replace K0 := Lib.hid (K0.out.grown hg (by omega)); replace K1 := Lib.hid hk; have hz4 := hg.size; clear hk hg)
    | (refine rosLoad (.tmp 1) rfl K1.out rfl rfl ?_)
    | (refine rosStore (.tmp 0) (.tmp 11) rfl K0.out rfl rfl HL.out rfl ?_; intro w5 hk hg; replace HB := Lib.hid (below_at HB.out hg (by omega) K0.out.lt); replace K1 := Lib.hid (K1.out.grown hg (by omega)); replace K0 := Lib.hid hk; have hz5 := hg.size; clear hk hg))
  exact bodyPost_ret (v := ros x) (ret_ros1 rfl _ _ K0.out rfl) rfl ⟨rfl, HB.out⟩
def r0 : Ro := ⟨3, 2, 40, zero16, 0, false⟩
theorem two_any (w : World) : Calls Try.prog 128 #[] w fun e w' => e = .returned (ros r0) ∧ Below w.heap.size w w' :=
  two_walk r0 (Lib.hid rfl) (Lib.hid fun w => New_any 3 2 40 w) w
theorem geo_any (m s : Int) (hm : (Lit.int .u8 m).wf = true) (hs : (Lit.int .u8 s).wf = true) (w : World) : Calls Try.prog 64 #[.int .u8 m, .int .u8 s] w fun e w' => e = .returned (geo (3 + m % 14) (1 + s % 64) 40) ∧ Below w.heap.size w w' := by
  have HB := Lib.hid (Below.refl w.heap.size w)
  obtain ⟨hm0, hm1⟩ := bounds_u8 hm
  obtain ⟨hs0, hs1⟩ := bounds_u8 hs
  have e1 : m.tmod 14 = m % 14 := Int.tmod_eq_emod_of_nonneg hm0
  have e2 : s.tmod 64 = s % 64 := Int.tmod_eq_emod_of_nonneg hs0
  have tok0 : True := trivial
  have tp0 : True := trivial
  go_enter Try.func64, Try.ntmps64
  go_wp2_with (first
    | (go_skip)
    | (have _t := tok0; refine F.rowAlloc 68 rfl _ zero_geo rfl ?_; intro w1 hk hb1 hz1; replace HB := Lib.hid (below_ext HB.out hb1); have K4 := Lib.hid hk; have tok1 : True := trivial; clear hk hb1 _t tok0)
    | (refine F.rowStore (cs := #[.int .i64 (_), .int .i64 (_), .int .i64 (_)]) 68 (.tmp 4) (.tmp 13) rfl K4.out rfl rfl info_geo rfl (ones_geo _ _ _) rfl ?_; intro w2 hk hg; replace HB := Lib.hid (below_at HB.out hg (by omega) K4.out.lt); replace K4 := Lib.hid hk; have hz2 := hg.size; clear hk hg))
  exact bodyPost_ret (v := geo (3 + m % 14) (1 + s % 64) 40) (results_cell_row rfl _ _ _ _ _ (0, 0) _ rfl K4.out Try.underlying68 rfl info_geo) rfl ⟨rfl, HB.out⟩
end Go.Proofs.Ytdchcggllcgokaa.Q
