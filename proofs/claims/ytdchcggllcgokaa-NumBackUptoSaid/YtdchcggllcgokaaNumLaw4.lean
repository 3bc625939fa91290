/-
  ashlarlaw01.NumBack: the walk, where the bytes are not too many.
-/
import Derived.Test.YtdchcggllcgokaaNumLaw2
namespace Go.Proofs.Ytdchcggllcgokaa.U
open Go.RowKit Go.Proofs.Ytdchcggllcgokaa.L Go.Proofs.YtdchcggllcgokaaW.PrintWords
set_option linter.unusedVariables false
set_option linter.unusedSimpArgs false


set_option maxRecDepth 100000 in
set_option maxHeartbeats 1000000 in
theorem back_any (n : Nat) (hn : n < 18446744073709551616) (z : Int) (hz : 0 ≤ z ∧ z ≤ 255) (A : Option Addr) (cap : Nat) (xs : List Int) (B : Option Addr) (cap2 : Nat) (zs : List Int) (w : World) (hr : ReadsInt w .u8 A xs.length xs) (hw : ∀ x ∈ xs, (Lit.int .u8 x).wf = true)
    (hr2 : ReadsInt w .u8 B zs.length zs) (hw2 : ∀ x ∈ zs, (Lit.int .u8 x).wf = true) (hl : xs.length ≤ 1048576) (hl2 : zs.length ≤ 1048576) :
    Calls Try.prog 7 #[.int .u64 (n : Int), .int .u8 z, .slice A xs.length cap, .slice B zs.length cap2] w fun e w' => e = .returned (.bool true) ∧ Below w.heap.size w w' := by
  obtain ⟨K, hK⟩ : ∃ K : Nat, 1 + z % 8 = (K : Int) := ⟨(1 + z % 8).toNat, by omega⟩
  have hK1 : 1 ≤ K := by omega
  have hK8 : K ≤ 8 := by omega
  obtain ⟨z0, z1⟩ := hz
  have HB := Lib.hid (Below.refl w.heap.size w)
  have HR := Lib.hid hr
  have HZ := Lib.hid hr2
  clear hr hr2
  by_cases h : n < 256 ^ K
  · obtain ⟨X, hX⟩ : ∃ X, X = putb n K := ⟨_, rfl⟩
    have P1 := Lib.hid (put_n hn hK8 (by rw [puts_ok hK1 hK8 h, hX]) : PutN K n X 0)
    have hXl : X.length = K := by rw [hX, putb_length]
    obtain ⟨L, hL⟩ : ∃ L, L = xs ++ X := ⟨_, rfl⟩
    obtain ⟨M, hM⟩ : ∃ M, M = L ++ zs := ⟨_, rfl⟩
    have hLl : L.length = xs.length + K := by rw [hL, List.length_append, hXl]
    have hMl : M.length = xs.length + K + zs.length := by rw [hM, List.length_append, hLl]
    have hMw : ∀ x ∈ M, (Lit.int .u8 x).wf = true := by
      rw [hM, hL, hX]
      have h1 := puts_wf n K
      rw [puts_ok hK1 hK8 h] at h1
      exact wf_append (wf_append hw h1) hw2
    have hG : gets M xs.length K = (n, 0) := by
      rw [gets_ok hK1 hK8 (by omega), hM, hL, hX, List.append_assoc, get_put n K h]
    have P2 : Hid (∀ (A : Option Addr) (cap : Nat) (w : World), M.length ≤ cap → cap ≤ 9223372036854775807 → ReadsInt w .u8 A M.length M → Calls Try.prog 44 #[.slice A M.length cap, .int .i64 (xs.length : Int), .int .i64 (K : Int)] w fun e w' => e = .returned (.tuple #[.int .u64 (n : Int), .int .i64 0]) ∧ Below w.heap.size w w') := Lib.hid fun A cap w hl hc hr => by
      have h2 := Get_b A cap M hMw xs.length K (by omega) (by omega) hl hc w hr
      simp only [hG] at h2
      exact h2
    have HL := Lib.hid hL.symm
    have HM := Lib.hid hM.symm
    have HL5 := Lib.hid (show (xs.length + X.length) * 1 ≤ 140737488355328 by omega)
    have HM5 := Lib.hid (show (L.length + zs.length) * 1 ≤ 140737488355328 by omega)
    have hXi : ((X.length : Int) == (K : Int)) = true := by rw [hXl]; simp
    clear h hX hXl hL hM hLl hMl hMw hG hw hw2 hn
    go_enter Try.func7, Try.ntmps7
    go_wp2_with (first
      | (go_at_call 42; refine (P1.out _).mono ?_; rintro e w1 ⟨⟨A1, c1, rfl, o1⟩, hb1⟩; have O1 := Lib.hid o1; replace HB := Lib.hid (below_ext HB.out hb1); clear hb1)
      | (go_at_call 41; refine (copy_b A cap xs _ (HR.out.below HB.out) (by omega)).mono ?_; rintro e w2 ⟨⟨A2, c2, rfl, o2⟩, hb2⟩; have O2 := Lib.hid o2; have B2 := Lib.hid hb2; have tok1 : True := trivial; clear o2 hb2)
      | (at_builtin; have _t := tok1; refine print_append_row (w0 := w1) w1.heap.size rfl (.tmp 38) (.tmp 39) 22 5 .u8 1 rfl Try.underlying22 S.info_u8 (by decide) _ xs X A1 X.length c1 rfl rfl O2.out (O1.out.below B2.out).reads B2.out B2.out.size HL5.out ?_; intro v3 w3 ho3 hb3 hg3 hat3; rw [HL.out] at ho3; have O3 := Lib.hid ho3; have B3 := Lib.hid hb3; have tok2 : True := trivial; clear ho3 hb3 hg3 hat3 O2 B2 tok1 _t)
      | (at_builtin; have _t := tok2; refine print_append_row (w0 := w1) w1.heap.size rfl (.tmp 41) (.tmp 42) 22 5 .u8 1 rfl Try.underlying22 S.info_u8 (by decide) _ L zs B zs.length cap2 rfl rfl O3.out (HZ.out.below (below_ext HB.out B3.out)) B3.out B3.out.size HM5.out ?_; intro v4 w4 ho4 hb4 hg4 hat4; rw [HM.out] at ho4; replace HB := Lib.hid (below_ext HB.out hb4); obtain ⟨A5, c5, he5, hr5⟩ := own_reads ho4; have H5 := Lib.hid (show M.length ≤ c5 from by rw [he5] at ho4; exact own_le ho4); have H6 := Lib.hid (show c5 ≤ 9223372036854775807 from by rw [he5] at ho4; exact Byts.cap ho4); subst he5; have R5 := Lib.hid hr5; clear ho4 hb4 hg4 hat4 hr5 O3 B3 tok2 _t)
      | (go_at_call 44; refine (P2.out A5 c5 _ H5.out H6.out R5.out).mono ?_; rintro e w5 ⟨rfl, hb5⟩; replace HB := Lib.hid (below_ext HB.out hb5); clear hb5)
      | (go_at_call 32; refine (lives_any _).mono ?_; rintro e w6 ⟨rfl, hb6⟩; replace HB := Lib.hid (below_ext HB.out hb6); clear hb6))
    go_ret
    exact ⟨ret_b (by simp), HB.out⟩
  · have hK9 : K < 8 := by
      refine Nat.lt_of_not_le fun h8 => ?_
      have h3 : 256 ^ 8 ≤ 256 ^ K := Nat.pow_le_pow_right (by decide) h8
      omega
    have P1 := Lib.hid (put_n hn hK8 (puts_bad (by omega)) : PutN K n [] 2)
    clear h hn hw hw2
    go_enter Try.func7, Try.ntmps7
    go_wp2_with (first
      | (go_at_call 42; refine (P1.out _).mono ?_; rintro e w1 ⟨⟨A1, c1, rfl, o1⟩, hb1⟩; replace HB := Lib.hid (below_ext HB.out hb1); clear hb1)
      | (go_at_call 32; refine (lives_any _).mono ?_; rintro e w2 ⟨rfl, hb2⟩; replace HB := Lib.hid (below_ext HB.out hb2); clear hb2))
    go_ret
    exact ⟨ret_b (by simp), HB.out⟩
theorem back_any' (n : Int) (wn : (Lit.int .u64 n).wf = true) (z : Int) (wz : (Lit.int .u8 z).wf = true) (A : Option Addr) (cap : Nat) (l : List Int) {w : World} (hr : ReadsInt w .u8 A l.length l) (y : l.length * 1 ≤ 140737488351232) (hw : ∀ x ∈ l, (Lit.int .u8 x).wf = true) (hc : l.length ≤ cap) (hk : l.length ≤ 1048576)
    (B : Option Addr) (cap2 : Nat) (l2 : List Int) (hr2 : ReadsInt w .u8 B l2.length l2) (y2 : l2.length * 1 ≤ 140737488351232) (hw2 : ∀ x ∈ l2, (Lit.int .u8 x).wf = true) (hc2 : l2.length ≤ cap2) (hk2 : l2.length ≤ 1048576) :
    Calls Try.prog 7 #[.int .u64 n, .int .u8 z, .slice A l.length cap, .slice B l2.length cap2] w fun e w' => e = .returned (.bool true) ∧ Below w.heap.size w w' := by
  obtain ⟨n, rfl, hn⟩ := u64_nat wn
  obtain ⟨h1, h2⟩ := bounds_u8 wz
  exact back_any n hn z (by omega) A cap l B cap2 l2 w hr hw hr2 hw2 hk hk2
end Go.Proofs.Ytdchcggllcgokaa.U
