/-
  ashlarlaw02.CrcBehind: the walk.
-/
import Derived.Test.YtjagnodfdniccaaCrcL
namespace Go.Proofs.Ytjagnodfdniccaa.C
open Go.RowKit Go.Proofs.Ytjagnodfdniccaa.L Go.Proofs.YtjagnodfdniccaaW.PrintWords
set_option linter.unusedVariables false
set_option linter.unusedSimpArgs false

/-! ### four bytes of a word that are taken in -/
theorem take_low (r w : BitVec 32) : take r (w.setWidth 8) = steps 8 (r ^^^ w) ^^^ (w >>> 8) := by
  have e : r ^^^ w = (r ^^^ (w.setWidth 8).setWidth 32) ^^^ ((w >>> 8) <<< 8) := by
    apply BitVec.eq_of_getLsbD_eq
    intro i hi
    simp only [BitVec.getLsbD_xor, BitVec.getLsbD_setWidth, BitVec.getLsbD_shiftLeft, BitVec.getLsbD_ushiftRight, hi, decide_true, Bool.true_and]
    by_cases h : i < 8
    · simp [h]
    · rw [show 8 + (i - 8) = i by omega]; simp [h]
  have h2 : steps 8 ((w >>> 8) <<< 8) = w >>> 8 := by
    rw [steps_shift 8]
    · apply BitVec.eq_of_getLsbD_eq
      intro i hi
      simp only [BitVec.getLsbD_ushiftRight, BitVec.getLsbD_shiftLeft]
      by_cases h : 8 + i < 32
      · rw [show 8 + (8 + i - 8) = 8 + i by omega]; simp [h]
      · have h9 : w.getLsbD (8 + i) = false := BitVec.getLsbD_of_ge w _ (by omega)
        simp [h, h9]
    · intro i hi
      simp [BitVec.getLsbD_shiftLeft, hi]
  rw [e, steps_xor, h2, BitVec.xor_assoc, BitVec.xor_self, BitVec.xor_zero, take]
theorem take_next (r w a : BitVec 32) (c : BitVec 8) (n k : Nat) (h : a = steps n r ^^^ (w >>> k)) (hc : c = (w >>> k).setWidth 8) : take a c = steps (n + 8) r ^^^ (w >>> (k + 8)) := by
  rw [h, hc, take_low, BitVec.xor_assoc, BitVec.xor_self, BitVec.xor_zero, ← steps_add, ← BitVec.shiftRight_add]
theorem behind_four (s : BitVec 32) : more 0#32 [] = 0#32 → fold (~~~ s) [s.setWidth 8, (s >>> 8).setWidth 8, (s >>> 16).setWidth 8, (s >>> 24).setWidth 8] = steps 32 4294967295#32 := fun _ => by
  have h0 : ~~~ s = steps 0 (~~~ s ^^^ s) ^^^ (s >>> 0) := by
    simp [steps, BitVec.xor_assoc]
  have h1 := take_next (~~~ s ^^^ s) s _ _ 0 0 h0 rfl
  have h2 := take_next (~~~ s ^^^ s) s _ _ _ _ h1 rfl
  have h3 := take_next (~~~ s ^^^ s) s _ _ _ _ h2 rfl
  have h4 := take_next (~~~ s ^^^ s) s _ _ _ _ h3 rfl
  have hx : ~~~ s ^^^ s = 4294967295#32 := by
    apply BitVec.eq_of_getLsbD_eq
    intro i hi
    rw [BitVec.getLsbD_xor, BitVec.getLsbD_not, show (4294967295#32) = BitVec.allOnes 32 from by decide, BitVec.getLsbD_allOnes]
    cases s.getLsbD i <;> simp [hi]
  have hz : s >>> (0 + 8 + 8 + 8 + 8) = 0#32 := by
    apply BitVec.eq_of_getLsbD_eq
    intro i hi
    rw [BitVec.getLsbD_ushiftRight, BitVec.getLsbD_of_ge s _ (by omega)]; simp
  rw [hz, hx, BitVec.xor_zero, show s >>> 0 = s by simp] at h4
  exact h4
theorem behind_sum (bs : List (BitVec 8)) (s : BitVec 32) (hs : s = more 0#32 bs) : more 0#32 (bs ++ [s.setWidth 8, (s >>> 8).setWidth 8, (s >>> 16).setWidth 8, (s >>> 24).setWidth 8]) = more 0#32 (List.replicate 4 0#8) := by
  have h : fold (~~~ 0#32) bs = ~~~ s := by rw [hs, more, BitVec.not_not]
  rw [more, fold_append, h, behind_four s (by decide)]
  decide +kernel
theorem u32_low (a : BitVec 32) : IntKind.u8.wrap (a.toNat : Int) = ((a.setWidth 8).toNat : Int) := by
  rw [BitVec.toNat_setWidth]; simp [IntKind.wrap, IntKind.signed, IntKind.bits]

theorem by8_four : by8 (List.replicate 4 0#8) = List.replicate 4 0 := by decide
theorem of_four (V : BitVec 32) (hV : V = more 0#32 (List.replicate 4 0#8)) (W : World) : Calls Try.prog 24 #[.slice (some ⟨W.heap.size, 0, none⟩) 4 4] (W.alloc (.cells (madeCells #[.int .u8 0] 4) 5)) fun e w' => e = .returned (.int .u32 (V.toNat : Int)) ∧ Below (W.alloc (.cells (madeCells #[.int .u8 0] 4) 5)).heap.size (W.alloc (.cells (madeCells #[.int .u8 0] 4) 5)) w' := by
  rw [hV]
  have h := own_reads' (own_made W W.heap.size 5 .u8 4 (Nat.le_refl _) (by omega))
  have h2 : ∀ xs : List (BitVec 8), xs.length = 4 → by8 xs = List.replicate 4 0 → Calls Try.prog 24 #[.slice (some ⟨W.heap.size, 0, none⟩) 4 4] (W.alloc (.cells (madeCells #[.int .u8 0] 4) 5)) fun e w' => e = .returned (.int .u32 ((more 0#32 xs).toNat : Int)) ∧ Below (W.alloc (.cells (madeCells #[.int .u8 0] 4) 5)).heap.size (W.alloc (.cells (madeCells #[.int .u8 0] 4) 5)) w' := by
    intro xs hx hb
    have := Of_any (some ⟨W.heap.size, 0, none⟩) 4 xs (W.alloc (.cells (madeCells #[.int .u8 0] 4) 5)) (by rw [hx, hb]; exact h) (by omega)
    rw [hx] at this
    exact this
  exact h2 _ (by simp) by8_four

theorem of_four' (V : BitVec 32) (hV : V = more 0#32 (List.replicate 4 0#8)) (A5 : Option Addr) (c5 : Nat) (W : World) (h : ReadsInt W .u8 A5 4 (List.replicate 4 0)) : Calls Try.prog 24 #[.slice A5 4 c5] W fun e w' => e = .returned (.int .u32 (V.toNat : Int)) ∧ Below W.heap.size W w' := by
  rw [hV]
  have h2 : ∀ xs : List (BitVec 8), xs.length = 4 → by8 xs = List.replicate 4 0 → Calls Try.prog 24 #[.slice A5 4 c5] W fun e w' => e = .returned (.int .u32 ((more 0#32 xs).toNat : Int)) ∧ Below W.heap.size W w' := by
    intro xs hx hb
    have := Of_any A5 c5 xs W (by rw [hx, hb]; exact h) (by omega)
    rw [hx] at this
    exact this
  exact h2 _ (by simp) by8_four

set_option maxHeartbeats 1000000 in
theorem behind_any (A : Option Addr) (cap : Nat) (bs : List (BitVec 8)) (w : World) (hr : ReadsInt w .u8 A bs.length (by8 bs)) (hn : bs.length ≤ 140737488351232) :
    Calls Try.prog 7 #[.slice A bs.length cap] w fun e w' => e = .returned (.bool true) ∧ Below w.heap.size w w' := by
  have HR := Lib.hid hr
  obtain ⟨s, hs⟩ : ∃ s, s = more 0#32 bs := ⟨_, rfl⟩
  have P1 := Lib.hid (fun W (h : W = w) => hs ▸ Of_any A cap bs w hr (by omega))
  have P2 := Lib.hid (fun W (h : ReadsInt W .u8 A bs.length (by8 bs)) => (by8_length bs) ▸ S.Copy_any A cap (by8 bs) W (by rw [by8_length]; exact h) (by rw [by8_length]; omega))
  obtain ⟨q1, hq1⟩ : ∃ q, q = s >>> 8 := ⟨_, rfl⟩
  obtain ⟨q2, hq2⟩ : ∃ q, q = s >>> 16 := ⟨_, rfl⟩
  obtain ⟨q3, hq3⟩ : ∃ q, q = s >>> 24 := ⟨_, rfl⟩
  have d1 : (s.toNat : Int) / 256 = (q1.toNat : Int) := by rw [hq1]; exact u32_shr s 8
  have d2 : (s.toNat : Int) / 65536 = (q2.toNat : Int) := by rw [hq2]; exact u32_shr s 16
  have d3 : (s.toNat : Int) / 16777216 = (q3.toNat : Int) := by rw [hq3]; exact u32_shr s 24
  obtain ⟨c0, hc0⟩ : ∃ c, c = s.setWidth 8 := ⟨_, rfl⟩
  obtain ⟨c1, hc1⟩ : ∃ c, c = q1.setWidth 8 := ⟨_, rfl⟩
  obtain ⟨c2, hc2⟩ : ∃ c, c = q2.setWidth 8 := ⟨_, rfl⟩
  obtain ⟨c3, hc3⟩ : ∃ c, c = q3.setWidth 8 := ⟨_, rfl⟩
  have e0 : IntKind.u8.wrap (s.toNat : Int) = (c0.toNat : Int) := by rw [hc0]; exact u32_low s
  have e1 : IntKind.u8.wrap (q1.toNat : Int) = (c1.toNat : Int) := by rw [hc1]; exact u32_low q1
  have e2 : IntKind.u8.wrap (q2.toNat : Int) = (c2.toNat : Int) := by rw [hc2]; exact u32_low q2
  have e3 : IntKind.u8.wrap (q3.toNat : Int) = (c3.toNat : Int) := by rw [hc3]; exact u32_low q3
  obtain ⟨L, hL⟩ : ∃ L, L = bs ++ [c0, c1, c2, c3] := ⟨_, rfl⟩
  have HL := Lib.hid (show by8 bs ++ [(c0.toNat : Int), (c1.toNat : Int), (c2.toNat : Int), (c3.toNat : Int)] = by8 L by rw [hL]; simp [by8])
  have hLn : L.length ≤ 9223372036854775807 := by rw [hL]; simp; omega
  obtain ⟨V, hV⟩ : ∃ V, V = more 0#32 L := ⟨_, rfl⟩
  have HV := Lib.hid (show V = more 0#32 (List.replicate 4 0#8) by
    rw [hV, hL, hc0, hc1, hc2, hc3, hq1, hq2, hq3]; exact behind_sum bs s hs)
  have hl5 : (((by8 bs).length + 4) * 1 ≤ 140737488355328) := by rw [by8_length]; omega
  have HL5 := Lib.hid hl5
  have sl := s.isLt
  have q1l := q1.isLt
  have q2l := q2.isLt
  have q3l := q3.isLt
  have hmk : ∀ W : World, (Instr.makeSlice 23 (.int .i64 4) (.int .i64 4)).run Try.prog W = .ok (.slice (some ⟨W.heap.size, 0, none⟩) 4 4) (W.alloc (.cells (madeCells #[.int .u8 0] 4) 5)) := fun W => run_make_row' (P := Try.prog) 23 5 (.int .u8 0) 1 Try.underlying23 S.info_u8 rfl .i64 .i64 4 (by omega) (by omega) W
  have P4 := Lib.hid (fun (A5 : Option Addr) (c5 : Nat) (W : World) (h : ReadsInt W .u8 A5 L.length (by8 L)) => hV ▸ Of_any A5 c5 L W h hLn)
  have P5 := Lib.hid (fun W => of_four V HV.out W)
  have P6 := Lib.hid (fun A5 c5 W h => of_four' V HV.out A5 c5 W h)
  clear hr hs hc0 hc1 hc2 hc3 hq1 hq2 hq3 hL hV hl5
  go_enter Try.func7, Try.ntmps7
  go_wp2_with (first
    | (go_at_call 24; refine (P1.out _ rfl).mono ?_; rintro e w1 ⟨rfl, hb1⟩; have R1 := Lib.hid (HR.out.below hb1))
    | (go_at_call 30; refine (P2.out _ R1.out).mono ?_; rintro e w2 ⟨v2, rfl, ho2, hb2⟩; have O2 := Lib.hid (own_lower ho2 hb1.size); have B2 := Lib.hid (below_ext hb1 hb2); clear hb1 hb2 ho2)
    | (at_builtin; go_loud (refine print_append_row (w0 := w) w.heap.size rfl (.tmp 9) (.tmp 21) 23 5 .u8 1 rfl Try.underlying23 S.info_u8 (by decide) _ (by8 bs) [(c0.toNat : Int), (c1.toNat : Int), (c2.toNat : Int), (c3.toNat : Int)] (some ⟨w2.heap.size, 0, none⟩) 4 4 rfl rfl (by rw [by8_length]; exact own_alloc O2.out _) (marked_reads w2 5 .u8 [(c0.toNat : Int), (c1.toNat : Int), (c2.toNat : Int), (c3.toNat : Int)] (0, 0) (by simp)) (below_alloc B2.out _) (by have := B2.out.size; simp; omega) HL5.out ?_; intro v5 w5 ho5 hb5 hg5 hat5; rw [HL.out, by8_length] at ho5; have B5 := Lib.hid hb5; obtain ⟨A5, c5, rfl, hr5⟩ := own_reads ho5; have R5 := Lib.hid hr5; clear ho5 hb5 hg5 hat5 hr5)))
  have G1 : Hid (ReadsInt w5.drew .u8 A5 L.length (by8 L)) := Lib.hid (R5.out.below (below_drewN (Below.refl w5.heap.size w5) 1))
  have G2 : Hid (ReadsInt (w5.drew.alloc (.cells (madeCells #[.int .u8 0] 4) 5)) .u8 A5 L.length (by8 L)) := Lib.hid (R5.out.below (below_alloc (below_drewN (Below.refl w5.heap.size w5) 1) _))
  have G3 : Hid (ReadsInt (w5.drew.alloc (.cells (madeCells #[.int .u8 0] 4) 5)) .u8 (some ⟨w5.heap.size, 0, none⟩) 4 (List.replicate 4 0)) := Lib.hid (own_reads' (own_made w5.drew w5.heap.size 5 .u8 4 (Nat.le_refl _) (by omega)))
  go_region_with (first
    | (go_at_call_of 24 (Value.slice A5 L.length c5); refine (P4.out A5 c5 w5.drew G1.out).mono ?_; rintro e w6 ⟨rfl, hb6⟩; have B6 := Lib.hid (below_ext B5.out (below_undrew hb6)); clear hb6)
    | (go_at_call_of 24 (Value.slice A5 L.length c5); refine (P4.out A5 c5 (w5.drew.alloc (.cells (madeCells #[.int .u8 0] 4) 5)) G2.out).mono ?_; rintro e w7 ⟨rfl, hb7⟩; have M7 := Lib.hid (G3.out.below hb7); have B7 := Lib.hid (below_ext B5.out (below_undrew (below_1 hb7))); clear hb7)
    | (go_at_call 24; refine (P5.out w6).mono ?_; rintro e w8 ⟨rfl, hb8⟩; have B8 := Lib.hid (below_ext B6.out (below_1 hb8)); clear hb8)
    | (go_at_call 24; refine (P6.out (some ⟨w5.heap.size, 0, none⟩) 4 w7 M7.out).mono ?_; rintro e w8 ⟨rfl, hb8⟩; have B8 := Lib.hid (below_ext B7.out hb8); clear hb8)
    | (go_at_call 27; refine (lives_any _).mono ?_; rintro e w9 ⟨rfl, hb9⟩; have B9 := Lib.hid (below_ext B8.out hb9); clear hb9))
  all_goals go_wp2
  all_goals
    go_ret
    exact ⟨ret_b (by simp), B9.out⟩
theorem behind_any' (A : Option Addr) (cap : Nat) (l : List Int) {w : World} (hr : ReadsInt w .u8 A l.length l) (y : l.length * 1 ≤ 140737488351232) (hw : ∀ x ∈ l, (Lit.int .u8 x).wf = true) (hc : l.length ≤ cap) :
    Calls Try.prog 7 #[.slice A l.length cap] w fun e w' => e = .returned (.bool true) ∧ Below w.heap.size w w' := by
  obtain ⟨bs, rfl⟩ := by8_of l hw
  rw [by8_length] at hr y ⊢
  exact behind_any A cap bs w hr (by omega)
end Go.Proofs.Ytjagnodfdniccaa.C
