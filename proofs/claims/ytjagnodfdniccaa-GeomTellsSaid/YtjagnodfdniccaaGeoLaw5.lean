/-
  ashlarlaw04.GeomTells: the walk.
-/
import Derived.Test.YtjagnodfdniccaaGeoR4
namespace Go.Proofs.Ytjagnodfdniccaa.G
open Go.RowKit Go.Proofs.Ytjagnodfdniccaa.L Go.Proofs.YtjagnodfdniccaaW.PrintWords
set_option linter.unusedVariables false

/-- where a block stands, and the error -/
def at1 (m s r b : Int) : Int := if may m s r = true ∧ 0 ≤ b ∧ b < s * (m - 1) then b / (m - 1) else 0
def at2 (m s r b : Int) : Int := if may m s r = true ∧ 0 ≤ b ∧ b < s * (m - 1) then b % m else 0
def at3 (m s r b : Int) : Int := if may m s r = true then (if 0 ≤ b ∧ b < s * (m - 1) then 0 else 12) else 2

theorem At_any (m s r b : Int) (w : World) : Calls Try.prog 41 #[.agg #[.int .i64 m, .int .i64 s, .int .i64 r], .int .i64 b] w fun e w' =>
    e = .returned (.tuple #[.agg #[.int .i64 (at1 m s r b), .int .i64 (at2 m s r b)], .int .i64 (at3 m s r b)]) ∧ Below w.heap.size w w' := by
  by_cases h : may m s r = true
  · by_cases hb : 0 ≤ b ∧ b < s * (m - 1)
    · have := At_ok m s r b w h hb.1 hb.2
      rw [mem_eq (may_iff.1 h).1 hb.1] at this
      rw [at1, at2, at3, if_pos ⟨h, hb⟩, if_pos ⟨h, hb⟩, if_pos h, if_pos hb]
      exact this
    · rw [at1, at2, at3, if_neg (fun q => hb q.2), if_neg (fun q => hb q.2), if_pos h, if_neg hb]
      exact At_err m s r b w 12 (.inr ⟨h, hb, rfl⟩)
  · rw [at1, at2, at3, if_neg (fun q => h q.1), if_neg (fun q => h q.1), if_neg h]
    exact At_err m s r b w 2 (.inl ⟨Bool.eq_false_iff.mpr h, rfl⟩)
theorem rAt_any (m s r b : Int) (w : World) : Calls Try.prog 55 #[.agg #[.int .i64 m, .int .i64 s, .int .i64 r], .int .i64 b] w fun e w' =>
    e = .returned (.tuple #[.agg #[.int .i64 (at1 m s r b), .int .i64 (at2 m s r b)], .int .i64 (at3 m s r b)]) ∧ Below w.heap.size w w' := by
  by_cases h : may m s r = true
  · by_cases hb : 0 ≤ b ∧ b < s * (m - 1)
    · rw [at1, at2, at3, if_pos ⟨h, hb⟩, if_pos ⟨h, hb⟩, if_pos h, if_pos hb]
      exact rAt_ok m s r b w h hb.1 hb.2
    · rw [at1, at2, at3, if_neg (fun q => hb q.2), if_neg (fun q => hb q.2), if_pos h, if_neg hb]
      exact rAt_err m s r b w 12 (.inr ⟨h, hb, rfl⟩)
  · rw [at1, at2, at3, if_neg (fun q => h q.1), if_neg (fun q => h q.1), if_neg h]
    exact rAt_err m s r b w 2 (.inl ⟨Bool.eq_false_iff.mpr h, rfl⟩)
theorem Block_any (m s r st me : Int) (w : World) : Calls Try.prog 42 #[.agg #[.int .i64 m, .int .i64 s, .int .i64 r], .agg #[.int .i64 st, .int .i64 me]] w fun e w' =>
    e = .returned (.tuple #[.int .i64 (blk m s r st me).1, .int .i64 (blk m s r st me).2]) ∧ Below w.heap.size w w' := by
  by_cases h : may m s r = true
  · by_cases hk : 0 ≤ st ∧ st < s ∧ 0 ≤ me ∧ me < m
    · by_cases hq : me = m - 1 - st % m
      · rw [blk, if_pos h, if_pos hk, if_pos hq]
        exact Block_none m s r st me w h hk.1 hk.2.1 hk.2.2.1 hk.2.2.2 hq
      · rw [blk, if_pos h, if_pos hk, if_neg hq]
        exact Block_ok m s r st me w h hk.1 hk.2.1 hk.2.2.1 hk.2.2.2 hq
    · rw [blk, if_pos h, if_neg hk]
      exact Block_err m s r st me w 12 (.inr ⟨h, hk, rfl⟩)
  · rw [blk, if_neg h]
    exact Block_err m s r st me w 2 (.inl ⟨Bool.eq_false_iff.mpr h, rfl⟩)
theorem rBlock_any (m s r st me : Int) (w : World) : Calls Try.prog 56 #[.agg #[.int .i64 m, .int .i64 s, .int .i64 r], .agg #[.int .i64 st, .int .i64 me]] w fun e w' =>
    e = .returned (.tuple #[.int .i64 (blk m s r st me).1, .int .i64 (blk m s r st me).2]) ∧ Below w.heap.size w w' := by
  by_cases h : may m s r = true
  · by_cases hk : 0 ≤ st ∧ st < s ∧ 0 ≤ me ∧ me < m
    · exact rBlock_ok m s r st me w h hk.1 hk.2.1 hk.2.2.1 hk.2.2.2
    · rw [blk, if_pos h, if_neg hk]
      exact rBlock_err m s r st me w 12 (.inr ⟨h, hk, rfl⟩)
  · rw [blk, if_neg h]
    exact rBlock_err m s r st me w 2 (.inl ⟨Bool.eq_false_iff.mpr h, rfl⟩)

set_option maxRecDepth 100000 in
set_option maxHeartbeats 4000000 in
theorem tells_any (m s r b k st me : Int) (w : World) : Calls Try.prog 16 #[.agg #[.int .i64 m, .int .i64 s, .int .i64 r], .int .i64 b, .int .i64 k, .agg #[.int .i64 st, .int .i64 me]] w fun e w' => e = .returned (.bool true) ∧ Below w.heap.size w w' := by
  obtain ⟨pa, hpa⟩ : ∃ x, x = par m s r k := ⟨_, rfl⟩
  obtain ⟨ak, has⟩ : ∃ x, x = asked m s r k := ⟨_, rfl⟩
  obtain ⟨bl, hbl⟩ : ∃ x, x = blocks m s r := ⟨_, rfl⟩
  obtain ⟨my, hmy⟩ : ∃ x, x = may m s r := ⟨_, rfl⟩
  obtain ⟨dl, hdl⟩ : ∃ x, x = dataL m s r k := ⟨_, rfl⟩
  have hdn : dl.length ≤ 9223372036854775807 := by
    rw [hdl, dataL]; split
    · rename_i h
      have := (asked_zero h).1
      simp; omega
    · simp
  have P1 := Lib.hid (fun w => Parity_any m s r k w)
  have P2 := Lib.hid (fun w => rParity_any m s r k w)
  have P3 := Lib.hid (fun w => gmay_any m s r w)
  have P4 := Lib.hid (fun w => rmay_any m s r w)
  have P5 := Lib.hid (fun w => blocks_any m s r w)
  have P6 := Lib.hid (fun w => rblocks_any m s r w)
  have P7 := Lib.hid (fun w => Data_any m s r k w)
  have P8 := Lib.hid (fun w => rData_any m s r k w)
  rw [← hpa, ← has] at P1 P2
  rw [← hmy] at P3 P4
  rw [← hbl] at P5 P6
  rw [← hdl, ← has] at P7 P8
  clear hpa has hbl hmy hdl
  go_enter Try.func16, Try.ntmps16
  go_wp2_with (first
    | (go_at_call 43; refine (P1.out _).mono ?_; rintro e w1 ⟨rfl, hb1⟩; have K1 := Lib.hid (show w1.heap[w.heap.size]? = some (.cells #[.int .i64 m, .int .i64 s, .int .i64 r] 50 (0, 0)) from (by have h9 := blk_below (blk_alloc (blk_new w (.cells #[.int .i64 m, .int .i64 s, .int .i64 r] 50)) (.cells #[.int .i64 st, .int .i64 me] 54)) hb1; simpa using h9)); have L1 := Lib.hid (show w1.heap[w.heap.size + 1]? = some (.cells #[.int .i64 st, .int .i64 me] 54 (0, 0)) from (by have h9 := blk_below (blk_new (w.alloc (.cells #[.int .i64 m, .int .i64 s, .int .i64 r] 50)) (.cells #[.int .i64 st, .int .i64 me] 54)) hb1; simpa using h9)); have B1 := Lib.hid (below_2 hb1); have c0_1 := (blk_cell K1.out 0).trans rfl; have c1_1 := (blk_cell K1.out 1).trans rfl; have c2_1 := (blk_cell K1.out 2).trans rfl; clear hb1)
    | (go_at_call 49; refine (P2.out _).mono ?_; rintro e w2 ⟨rfl, hb2⟩; have K2 := Lib.hid (blk_below K1.out hb2); have L2 := Lib.hid (blk_below L1.out hb2); have B2 := Lib.hid (below_ext B1.out hb2); have c0_2 := (blk_cell K2.out 0).trans rfl; have c1_2 := (blk_cell K2.out 1).trans rfl; have c2_2 := (blk_cell K2.out 2).trans rfl; clear hb2))
  go_region_held3 (fun w' => w'.cell? ⟨w.heap.size, 0, none⟩ = some (.int .i64 m) ∧ w'.cell? ⟨w.heap.size, 1, none⟩ = some (.int .i64 s) ∧ w'.cell? ⟨w.heap.size, 2, none⟩ = some (.int .i64 r)) (first | exact ⟨c0_2, c1_2, c2_2⟩ | exact ⟨c0_3, c1_3, c2_3⟩ | exact ⟨c0_4, c1_4, c2_4⟩ | exact ⟨c0_5, c1_5, c2_5⟩ | exact ⟨c0_6, c1_6, c2_6⟩) ((first | (go_at_call 50; refine (P3.out _).mono ?_; rintro e w3 ⟨rfl, hb3⟩; replace hb3 := below_undrew hb3; have K3 := Lib.hid (blk_below K2.out (hb3)); have L3 := Lib.hid (blk_below L2.out hb3); have B3 := Lib.hid (below_ext B2.out hb3); have c0_3 := (blk_cell K3.out 0).trans rfl; have c1_3 := (blk_cell K3.out 1).trans rfl; have c2_3 := (blk_cell K3.out 2).trans rfl; clear hb3) | (go_at_call 51; refine (P4.out _).mono ?_; rintro e w4 ⟨rfl, hb4⟩; have K4 := Lib.hid (blk_below K3.out (hb4)); have L4 := Lib.hid (blk_below L3.out hb4); have B4 := Lib.hid (below_ext B3.out hb4); have c0_4 := (blk_cell K4.out 0).trans rfl; have c1_4 := (blk_cell K4.out 1).trans rfl; have c2_4 := (blk_cell K4.out 2).trans rfl; clear hb4) | (go_at_call 40; refine (P5.out _).mono ?_; rintro e w5 ⟨rfl, hb5⟩; have K5 := Lib.hid (blk_below K4.out (hb5)); have L5 := Lib.hid (blk_below L4.out hb5); have B5 := Lib.hid (below_ext B4.out hb5); have c0_5 := (blk_cell K5.out 0).trans rfl; have c1_5 := (blk_cell K5.out 1).trans rfl; have c2_5 := (blk_cell K5.out 2).trans rfl; clear hb5) | (go_at_call 52; refine (P6.out _).mono ?_; rintro e w6 ⟨rfl, hb6⟩; have K6 := Lib.hid (blk_below K5.out (hb6)); have L6 := Lib.hid (blk_below L5.out hb6); have B6 := Lib.hid (below_ext B5.out hb6); have c0_6 := (blk_cell K6.out 0).trans rfl; have c1_6 := (blk_cell K6.out 1).trans rfl; have c2_6 := (blk_cell K6.out 2).trans rfl; clear hb6)))
  have P9 := Lib.hid (fun w => At_any m s r b w)
  have P10 := Lib.hid (fun w => rAt_any m s r b w)
  have P11 := Lib.hid (fun w => Block_any m s r st me w)
  have P12 := Lib.hid (fun w => rBlock_any m s r st me w)
  have P13 := Lib.hid (fun w => Sector_any k w)
  have P14 := Lib.hid (fun w => rSector_any k w)
  have HDN := Lib.hid hdn
  clear hdn
  go_wp2_with (first
    | (go_at_call 45; refine (P7.out _).mono ?_; rintro e w7 ⟨v, rfl, ho, hb7⟩; have K7 := Lib.hid (blk_below K6.out hb7); have L7 := Lib.hid (blk_below L6.out hb7); have B7 := Lib.hid (below_ext B6.out hb7); have c0_7 := (blk_cell K7.out 0).trans rfl; have c1_7 := (blk_cell K7.out 1).trans rfl; have c2_7 := (blk_cell K7.out 2).trans rfl; have R7 := Lib.hid (own_reads ho); clear hb7 ho)
    | (go_at_call 53; refine (P8.out _).mono ?_; rintro e w8 ⟨v2, rfl, ho, hb8⟩; have K8 := Lib.hid (blk_below K7.out hb8); have L8 := Lib.hid (blk_below L7.out hb8); have B8 := Lib.hid (below_ext B7.out hb8); have c0_8 := (blk_cell K8.out 0).trans rfl; have c1_8 := (blk_cell K8.out 1).trans rfl; have c2_8 := (blk_cell K8.out 2).trans rfl; obtain ⟨X1, y1, rfl, r1⟩ := R7.out; obtain ⟨X2, y2, rfl, r2⟩ := own_reads ho; have Q8 := Lib.hid (r1.below hb8); have R8 := Lib.hid r2; clear hb8 ho r1 r2)
    | (go_at_call 54; refine (S.Ints_any _ _ _ _ dl dl _ Q8.out R8.out HDN.out HDN.out).mono ?_; rintro e w9 ⟨rfl, j, rfl⟩; rw [decide_eq_true (rfl : dl = dl)])
    | (go_at_call 41; refine (P9.out _).mono ?_; rintro e w10 ⟨rfl, hb10⟩; replace hb10 := below_undrewN hb10; have K10 := Lib.hid (blk_below K8.out hb10); have L10 := Lib.hid (blk_below L8.out hb10); have B10 := Lib.hid (below_ext B8.out hb10); have c0_10 := (blk_cell K10.out 0).trans rfl; have c1_10 := (blk_cell K10.out 1).trans rfl; have c2_10 := (blk_cell K10.out 2).trans rfl; have z10 := blk_lt K10.out; clear hb10)
    | (go_at_call 55; refine (P10.out _).mono ?_; rintro e w11 ⟨rfl, hb11⟩; have X11 := Lib.hid (blk_below (blk_new w10 (.cells #[.int .i64 (at1 m s r b), .int .i64 (at2 m s r b)] 54)) hb11); have x0 := (blk_cell X11.out 0).trans rfl; have x1 := (blk_cell X11.out 1).trans rfl; have zx := blk_lt X11.out; have K11 := Lib.hid (blk_below (blk_alloc K10.out _) hb11); have L11 := Lib.hid (blk_below (blk_alloc L10.out _) hb11); have B11 := Lib.hid (below_ext B10.out (below_1 hb11)); have c0_11 := (blk_cell K11.out 0).trans rfl; have c1_11 := (blk_cell K11.out 1).trans rfl; have c2_11 := (blk_cell K11.out 2).trans rfl; have p0_11 := (blk_cell L11.out 0).trans rfl; have p1_11 := (blk_cell L11.out 1).trans rfl; have z11 := blk_lt K11.out; have y11 := blk_lt L11.out; clear hb11)
    | (go_at_call 42; refine (P11.out _).mono ?_; rintro e w12 ⟨rfl, hb12⟩; have K12 := Lib.hid (blk_below (blk_alloc K11.out _) hb12); have L12 := Lib.hid (blk_below (blk_alloc L11.out _) hb12); have B12 := Lib.hid (below_ext B11.out (below_1 hb12)); have c0_12 := (blk_cell K12.out 0).trans rfl; have c1_12 := (blk_cell K12.out 1).trans rfl; have c2_12 := (blk_cell K12.out 2).trans rfl; have p0_12 := (blk_cell L12.out 0).trans rfl; have p1_12 := (blk_cell L12.out 1).trans rfl; clear hb12)
    | (go_at_call 56; refine (P12.out _).mono ?_; rintro e w13 ⟨rfl, hb13⟩; have B13 := Lib.hid (below_ext B12.out hb13); clear hb13)
    | (go_at_call 57; refine (P13.out _).mono ?_; rintro e w14 ⟨rfl, rfl⟩)
    | (go_at_call 58; refine (P14.out _).mono ?_; rintro e w15 ⟨rfl, rfl⟩)
    | (go_at_call 44; refine (lives_any _).mono ?_; rintro e w16 ⟨rfl, hb16⟩; have B16 := Lib.hid (below_ext B13.out hb16); clear hb16)
    )
  all_goals go_ret
  all_goals exact ⟨ret_b (by simp), B16.out⟩
theorem tells_any' (m : Int) (wm : (Lit.int .i64 m).wf = true) (s : Int) (ws : (Lit.int .i64 s).wf = true) (r : Int) (wr : (Lit.int .i64 r).wf = true) (b : Int) (wb : (Lit.int .i64 b).wf = true) (k : Int) (wk : (Lit.int .i64 k).wf = true) (st : Int) (wst : (Lit.int .i64 st).wf = true) (me : Int) (wme : (Lit.int .i64 me).wf = true) (w : World) : Calls Try.prog 16 #[.agg #[.int .i64 m, .int .i64 s, .int .i64 r], .int .i64 b, .int .i64 k, .agg #[.int .i64 st, .int .i64 me]] w fun e w' => e = .returned (.bool true) ∧ Below w.heap.size w w' :=
  tells_any m s r b k st me w
end Go.Proofs.Ytjagnodfdniccaa.G
