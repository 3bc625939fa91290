/-
  ashlarlaw02.lives.
-/
import Derived.Test.YtjagnodfdniccaaCrc4
import Derived.Test.YtjagnodfdniccaaLeft
import Derived.Lib.SlBytesConst
namespace Go.Proofs.Ytjagnodfdniccaa.C
open Go.RowKit Go.Proofs.Ytjagnodfdniccaa.L Go.Proofs.YtjagnodfdniccaaW.PrintWords
set_option linter.unusedVariables false

theorem digits_by8 : ([49, 50, 51, 52, 53, 54, 55, 56, 57] : List Int) = by8 [49#8, 50#8, 51#8, 52#8, 53#8, 54#8, 55#8, 56#8, 57#8] := by decide
theorem sum1 : (more 0#32 (List.replicate 32 0#8)).toNat = 2324772522 := by decide +kernel
theorem sum2 : (more 0#32 [49#8, 50#8, 51#8, 52#8, 53#8, 54#8, 55#8, 56#8, 57#8]).toNat = 3808858755 := by decide +kernel
theorem sum3 : (more 0#32 []).toNat = 0 := by decide +kernel
theorem sum4 : (step 1#32).toNat = 2197175160 := by decide +kernel
theorem sum5 : (step 2#32).toNat = 1 := by decide +kernel
theorem sum6 : (take 0#32 1#8).toNat = 4067132163 := by decide +kernel

theorem marked_reads (W : World) (e : TypeId) (k : IntKind) (xs : List Int) (fr : Nat × Nat) (hm : xs.length ≤ 9223372036854775807) :
    ReadsInt (W.alloc (.cells (nums k xs).toArray e fr)) k (some ⟨W.heap.size, 0, none⟩) xs.length xs :=
  ⟨rfl, hm, fun _ => ⟨_, rfl, fun j hj => by
    rw [add_plain]
    rw [cell_of_row _ _ _ (nums k xs).toArray e fr (heap_alloc_last W _)]
    simp [nums, List.getD_eq_getElem?_getD, List.getElem?_eq_getElem hj]⟩⟩

set_option maxHeartbeats 1000000 in
theorem lives_any (w : World) : Calls Try.prog 27 #[] w fun e w' => e = .returned (.bool true) ∧ Below w.heap.size w w' := by
  have P1 : Hid (∀ w, Calls Try.prog 28 #[.int .u32 0, .int .i64 32] w fun e w' => e = .returned (.tuple #[.int .u32 2324772522, .int .i64 0]) ∧ Below w.heap.size w w') := Lib.hid fun w => by
    have h := Zeros_ok 0#32 32 w (by decide)
    rw [sum1] at h
    exact h
  have P2 : Hid (∀ w, Calls Try.prog 24 #[.slice none 0 0] w fun e w' => e = .returned (.int .u32 0) ∧ Below w.heap.size w w') := Lib.hid fun w => by
    have h := Of_any none 0 [] w ⟨rfl, by decide, fun h => absurd h (by decide)⟩ (by decide)
    rw [sum3] at h
    exact h
  have P3 : Hid (∀ (w : World) (g c : Nat), ReadsInt w .u8 (some ⟨g, 0, none⟩) 9 [49, 50, 51, 52, 53, 54, 55, 56, 57] → Calls Try.prog 24 #[.slice (some ⟨g, 0, none⟩) 9 c] w fun e w' => e = .returned (.int .u32 3808858755) ∧ Below w.heap.size w w') := Lib.hid fun w g c hr => by
    have h := Of_any (some ⟨g, 0, none⟩) c [49#8, 50#8, 51#8, 52#8, 53#8, 54#8, 55#8, 56#8, 57#8] w (by rw [← digits_by8]; exact hr) (by decide)
    rw [sum2] at h
    exact h
  have P4 : Hid (∀ w, Calls Try.prog 18 #[.int .u32 1] w fun e w' => e = .returned (.int .u32 2197175160) ∧ w = w') := Lib.hid fun w => by
    have h := Step_any 1#32 w
    rw [sum4] at h
    exact h
  have P5 : Hid (∀ w, Calls Try.prog 18 #[.int .u32 2] w fun e w' => e = .returned (.int .u32 1) ∧ w = w') := Lib.hid fun w => by
    have h := Step_any 2#32 w
    rw [sum5] at h
    exact h
  have P6 : Hid (∀ w, Calls Try.prog 20 #[.int .u32 0, .int .u8 1] w fun e w' => e = .returned (.int .u32 4067132163) ∧ Below w.heap.size w w') := Lib.hid fun w => by
    have h := Take_any 0#32 1#8 w
    rw [sum6] at h
    exact h
  have kc := fun (w : World) (C : Array Value) (n c : Nat) => Lib.run_convert_bytes_const (P := Try.prog) w 23 5 C n c Try.underlying23 Try.underlying5
  go_enter Try.func27, Try.ntmps27
  go_wp2_with (first
    | (go_at_call 28; refine (P1.out _).mono ?_; rintro e w1 ⟨rfl, hb1⟩)
    | (go_at_call_of 24 (Value.slice none 0 0); refine (P2.out _).mono ?_; rintro e w2 ⟨rfl, hb2⟩)
    | (go_at_call 24; refine (P3.out _ _ _ (marked_reads w2 5 .u8 [49, 50, 51, 52, 53, 54, 55, 56, 57] (9, 10) (by decide))).mono ?_; rintro e w3 ⟨rfl, hb3⟩)
    | (go_at_call_of 18 (Value.int .u32 1); refine (P4.out _).mono ?_; rintro e w4 ⟨rfl, rfl⟩)
    | (go_at_call 18; refine (P5.out _).mono ?_; rintro e w4 ⟨rfl, rfl⟩)
    | (go_at_call 20; refine (P6.out _).mono ?_; rintro e w4 ⟨rfl, hb4⟩))
  go_ret
  exact ⟨ret_b (by decide), below_ext hb1 (below_ext hb2 (below_ext (below_1 hb3) hb4))⟩
end Go.Proofs.Ytjagnodfdniccaa.C
