/-
  ashlarlaw01.lives; the results of chapter 01 as rows that are read.
-/
import Derived.Test.YtdchcggllcgokaaNumM
namespace Go.Proofs.Ytdchcggllcgokaa.U
open Go.RowKit Go.Proofs.Ytdchcggllcgokaa.L Go.Proofs.YtdchcggllcgokaaW.PrintWords
set_option linter.unusedVariables false
set_option linter.unusedSimpArgs false

theorem lit_reads (W : World) (xs : List Int) (hm : xs.length ≤ 9223372036854775807) : ReadsInt (W.alloc (.cells (nums .u8 xs).toArray 5)) .u8 (some ⟨W.heap.size, 0, none⟩) xs.length xs :=
  own_reads' (own_lit W W.heap.size 5 .u8 xs (Nat.le_refl _) hm)
theorem same_true (A B : Option Addr) (c d : Nat) (xs : List Int) (w : World) (hx : ReadsInt w .u8 A xs.length xs) (hy : ReadsInt w .u8 B xs.length xs) (hn : xs.length ≤ 9223372036854775807) :
    Calls Try.prog 38 #[.slice A xs.length c, .slice B xs.length d] w fun e w' => e = .returned (.bool true) ∧ ∃ j, w' = w.drewN j := by
  have h := S.Same_any A B c d xs xs w hx hy hn hn
  rwa [decide_eq_true rfl] at h
theorem same_b (A B : Option Addr) (c d : Nat) (xs : List Int) (w : World) (hx : ReadsInt w .u8 A xs.length xs) (hy : ReadsInt w .u8 B xs.length xs) (hn : xs.length ≤ 9223372036854775807) :
    Calls Try.prog 38 #[.slice A xs.length c, .slice B xs.length d] w fun e w' => e = .returned (.bool true) ∧ Below w.heap.size w w' :=
  (same_true A B c d xs w hx hy hn).mono fun _ _ ⟨h1, h2⟩ => ⟨h1, drew_below h2⟩
theorem over_lit {w w1 : World} {o : Obj} (h : Below (w.alloc o).heap.size (w.alloc o) w1) : Below w.heap.size w w1 := below_1 h
theorem at_lit {w : World} {o : Obj} {k : IntKind} {A : Option Addr} {n : Nat} {xs : List Int} (h : ReadsInt w k A n xs) : ReadsInt (w.alloc o) k A n xs := h.below (below_alloc (Below.refl _ _) _)
theorem lives_put (w : World) : Calls Try.prog 42 #[.int .u64 258, .int .i64 2] w fun e w' => ∃ g, e = .returned (.tuple #[.slice (some ⟨g, 0, none⟩) 2 2, .int .i64 0]) ∧ ReadsInt w' .u8 (some ⟨g, 0, none⟩) 2 [2, 1] ∧ Below w.heap.size w w' := by
  refine (Put_ok 258 (by decide) 2 (by decide) (by decide) (by decide) w).mono ?_
  rintro e w' ⟨g, rfl, ho, hb⟩
  exact ⟨g, rfl, own_reads' ho, hb⟩
theorem lives_bits (A : Option Addr) (c : Nat) (w : World) (hr : ReadsInt w .u8 A 3 [1, 2, 3]) : Calls Try.prog 34 #[.slice A 3 c, .int .i64 2] w fun e w' => ∃ A' c', e = .returned (.tuple #[.slice A' 1 c', .int .i64 0]) ∧ ReadsInt w' .u8 A' 1 [57] ∧ Below w.heap.size w w' := by
  refine (Bits_any A c [1, 2, 3] (by decide) 2 (by decide) (by decide) (by decide) w hr).mono ?_
  rintro e w' ⟨⟨⟨i, hi, hv⟩, _⟩ | ⟨_, g, rfl, ho⟩, hb⟩
  · exfalso
    have : i = 0 ∨ i = 1 ∨ i = 2 := by simp at hi; omega
    rcases this with rfl | rfl | rfl <;> exact absurd hv (by decide)
  · exact ⟨_, _, rfl, own_reads' ho, hb⟩
theorem lives_unbits (A : Option Addr) (c : Nat) (w : World) (hr : ReadsInt w .u8 A 1 [57]) : Calls Try.prog 36 #[.slice A 1 c, .int .i64 2, .int .i64 3] w fun e w' => ∃ A' c', e = .returned (.tuple #[.slice A' 3 c', .int .i64 0]) ∧ ReadsInt w' .u8 A' 3 [1, 2, 3] ∧ Below w.heap.size w w' := by
  refine (Unbits_ok A c [57] (by decide) 2 3 (by decide) (by decide) (by decide) (by decide) w hr).mono ?_
  rintro e w' ⟨g, rfl, ho, hb⟩
  exact ⟨_, _, rfl, own_reads' ho, hb⟩
set_option maxRecDepth 100000 in
set_option maxHeartbeats 1000000 in
theorem lives_any (w : World) : Calls Try.prog 32 #[] w fun e w' => e = .returned (.bool true) ∧ Below w.heap.size w w' := by
  have P2 : Hid (∀ w, Calls Try.prog 42 #[.int .u64 256, .int .i64 1] w fun e w' => e = .returned (.tuple #[.slice none 0 0, .int .i64 2]) ∧ w = w') := Lib.hid (fun w => Put_big 256 (by decide) 1 (by decide) (by decide) (by decide) w)
  have HB := Lib.hid (Below.refl w.heap.size w)
  go_enter Try.func32, Try.ntmps32
  go_wp2_with (first
    | (go_at_call_of 42 (Value.int .u64 258); refine (lives_put _).mono ?_; rintro e w1 ⟨g, rfl, hr1, hb1⟩; have R1 := Lib.hid hr1; replace HB := Lib.hid (below_ext HB.out hb1); clear hb1)
    | (go_at_call 42; refine (P2.out _).mono ?_; rintro e w2 ⟨rfl, rfl⟩)
    | (go_at_call 34; refine (lives_bits _ _ _ (lit_reads w1 [1, 2, 3] (by decide))).mono ?_; rintro e w3 ⟨A3, c3, rfl, hr3, hb3⟩; have R3 := Lib.hid hr3; replace R1 := Lib.hid (R1.out.below (over_lit hb3)); replace HB := Lib.hid (below_ext HB.out (over_lit hb3)); clear hb3)
    | (go_at_call 36; refine (lives_unbits _ _ _ (lit_reads w3 [57] (by decide))).mono ?_; rintro e w4 ⟨A4, c4, rfl, hr4, hb4⟩; have R4 := Lib.hid hr4; replace R1 := Lib.hid (R1.out.below (over_lit hb4)); replace R3 := Lib.hid (R3.out.below (over_lit hb4)); replace HB := Lib.hid (below_ext HB.out (over_lit hb4)); clear hb4)
    | (go_at_call_of 38 (Value.slice (some ⟨g, 0, none⟩) 2 2); refine (same_b _ _ 2 2 [2, 1] _ (at_lit R1.out) (lit_reads w4 [2, 1] (by decide)) (by decide)).mono ?_; rintro e w5 ⟨rfl, hb5⟩; replace R1 := Lib.hid (R1.out.below (over_lit hb5)); replace R3 := Lib.hid (R3.out.below (over_lit hb5)); replace R4 := Lib.hid (R4.out.below (over_lit hb5)); replace HB := Lib.hid (below_ext HB.out (over_lit hb5)); clear hb5)
    | (go_at_call_of 38 (Value.slice A3 1 c3); refine (same_b _ _ c3 1 [57] _ (at_lit R3.out) (lit_reads w5 [57] (by decide)) (by decide)).mono ?_; rintro e w6 ⟨rfl, hb6⟩; replace R1 := Lib.hid (R1.out.below (over_lit hb6)); replace R3 := Lib.hid (R3.out.below (over_lit hb6)); replace R4 := Lib.hid (R4.out.below (over_lit hb6)); replace HB := Lib.hid (below_ext HB.out (over_lit hb6)); clear hb6)
    | (go_at_call_of 38 (Value.slice A4 3 c4); refine (same_b _ _ c4 3 [1, 2, 3] _ (at_lit R4.out) (lit_reads w6 [1, 2, 3] (by decide)) (by decide)).mono ?_; rintro e w7 ⟨rfl, hb7⟩; replace R1 := Lib.hid (R1.out.below (over_lit hb7)); replace R3 := Lib.hid (R3.out.below (over_lit hb7)); replace R4 := Lib.hid (R4.out.below (over_lit hb7)); replace HB := Lib.hid (below_ext HB.out (over_lit hb7)); clear hb7))
  go_ret
  exact ⟨ret_b (by simp), HB.out⟩
end Go.Proofs.Ytdchcggllcgokaa.U
