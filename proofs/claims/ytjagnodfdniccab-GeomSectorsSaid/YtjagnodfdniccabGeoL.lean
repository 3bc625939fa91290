/-
  ashlarlaw04: three, geo, lives.
-/
import Derived.Test.YtjagnodfdniccabGeo
import Derived.Test.YtjagnodfdniccabGeoB
import Derived.Test.YtjagnodfdniccabInts
namespace Go.Proofs.Ytjagnodfdniccab.G
open Go.RowKit Go.Proofs.Ytjagnodfdniccab.L Go.Proofs.YtjagnodfdniccabW.PrintWords
set_option linter.unusedVariables false

theorem three_any (w : World) : Calls Try.prog 8 #[] w fun e w' => e = .returned (.agg #[.int .i64 3, .int .i64 4, .int .i64 40]) ∧ Below w.heap.size w w' := by
  go_enter Try.func8, Try.ntmps8
  go_wp2
  exact bodyPost_ret (v := .agg #[.int .i64 3, .int .i64 4, .int .i64 40]) (by simp [results, Try.results8, go_sem]) rfl ⟨rfl, (Below.refl _ _).alloc (Nat.le_refl _) _⟩

set_option maxHeartbeats 1000000 in
theorem lives_any (w : World) : Calls Try.prog 5 #[] w fun e w' => e = .returned (.bool true) ∧ Below w.heap.size w w' := by
  have p1 := fun w => Parity_any 3 4 40 3 w
  simp only [show par 3 4 40 3 = 2 by decide, show asked 3 4 40 3 = 0 by decide] at p1
  have p2 := fun w => Data_any 3 4 40 1 w
  simp only [show dataL 3 4 40 1 = [2, 0] by decide, show asked 3 4 40 1 = 0 by decide] at p2
  have p3 := fun w => At_ok 3 4 40 2 w (by decide) (by decide) (by decide)
  have e1 : (2 : Int) / (3 - 1) = 1 := by decide
  have e2 : (3 - 1 - (2 / (3 - 1)) % 3 + 1 + 2 % (3 - 1)) % 3 = (2 : Int) := by decide
  rw [e2, e1] at p3
  have p4 := fun w => Block_none 3 4 40 1 1 w (by decide) (by decide) (by decide) (by decide) (by decide) (by decide)
  have p5 := fun w => blocks_any 3 4 40 w
  simp only [show blocks 3 4 40 = 8 by decide] at p5
  have P1 := Lib.hid p1
  have P2 := Lib.hid p2
  have P3 := Lib.hid p3
  have P4 := Lib.hid p4
  have P5 := Lib.hid p5
  clear p1 p2 p3 p4 p5 e1 e2
  go_enter Try.func5, Try.ntmps5
  go_wp2_with (first
    | (go_at_call 8; refine (three_any _).mono ?_; rintro e w1 ⟨rfl, hb1⟩)
    | (go_at_call 7; refine (P1.out _).mono ?_; rintro e w2 ⟨rfl, hb2⟩; have B2 := Lib.hid (below_ext hb1 hb2); clear hb1 hb2)
    | (go_at_call 9; refine (P2.out _).mono ?_; rintro e w3 ⟨v, rfl, ho, hb3⟩; have B3 := Lib.hid (below_ext B2.out (below_ext hb1 hb3)); clear hb1 hb3; have HO := Lib.hid ho; obtain ⟨A, cap, rfl, hr⟩ := own_reads ho; have HR := Lib.hid hr; clear ho hr)
    | (go_at_call 10; refine (P3.out _).mono ?_; rintro e w4 ⟨rfl, hb4⟩; have B4 := Lib.hid (below_ext hb1 hb4); have B4' := Lib.hid (below_ext B3.out B4.out); clear hb1 hb4)
    | (go_at_call 11; refine (P4.out _).mono ?_; rintro e w5 ⟨rfl, hb5⟩; have B5 := Lib.hid (below_ext hb1 hb5); clear hb1 hb5)
    | (go_at_call 12; refine (P5.out _).mono ?_; rintro e w6 ⟨rfl, hb6⟩; have B6 := Lib.hid (below_ext hb1 hb6); clear hb1 hb6)
    )
  have B46 := below_ext B4.out (below_ext (below_1 B5.out) B6.out)
  have R1 : ReadsInt (w6.alloc (.cells #[.int .i64 2, .int .i64 0] 3)) .i64 A 2 [2, 0] := HR.out.below (below_alloc B46 _)
  have R2 : ReadsInt (w6.alloc (.cells #[.int .i64 2, .int .i64 0] 3)) .i64 (some ⟨w6.heap.size, 0, none⟩) 2 [2, 0] := own_reads' (own_lit w6 w6.heap.size 3 .i64 [2, 0] (Nat.le_refl _) (by decide))
  have BB := Lib.hid (below_alloc (below_ext B3.out B46) (.cells #[.int .i64 2, .int .i64 0] 3))
  refine (S.Ints_any _ _ _ _ [2, 0] [2, 0] _ R1 R2 (by decide) (by decide)).mono ?_
  have z4 : w4.heap.size < w6.heap.size := by have h1 := B5.out.size; have h2 := B6.out.size; simp at h1; omega
  have c0 : w6.cell? ⟨w4.heap.size, 0, none⟩ = some (.int .i64 1) := pw_cell_below B6.out (pw_cell_below B5.out (by simp))
  have c1 : w6.cell? ⟨w4.heap.size, 1, none⟩ = some (.int .i64 2) := pw_cell_below B6.out (pw_cell_below B5.out (by simp))
  clear R1 R2 B46
  rintro e w7 ⟨rfl, j, rfl⟩

  go_wp2
  go_ret
  exact ⟨ret_b (by decide), below_drewN BB.out _⟩
end Go.Proofs.Ytjagnodfdniccab.G
