/-
  ashlarlaw01.NumRow: the walk.
-/
import Derived.Test.YtdchcggllcgokaaNumLaw1
namespace Go.Proofs.Ytdchcggllcgokaa.U
open Go.RowKit Go.Proofs.Ytdchcggllcgokaa.L Go.Proofs.YtdchcggllcgokaaW.PrintWords
set_option linter.unusedVariables false
set_option linter.unusedSimpArgs false

theorem Byts.lower {b b' : Nat} {W : World} {A : Option Addr} {c : Nat} {ys : List Int} (h : Byts b W A c ys) (hb : b' ≤ b) : Byts b' W A c ys := own_lower h hb
theorem copy_b (A : Option Addr) (c : Nat) (xs : List Int) (w : World) (hx : ReadsInt w .u8 A xs.length xs) (hn : xs.length ≤ 140737488355328) :
    Calls Try.prog 41 #[.slice A xs.length c] w fun e w' => (∃ A c, e = .returned (.slice A xs.length c) ∧ Byts w.heap.size w' A c xs) ∧ Below w.heap.size w w' := by
  refine (S.Copy_any A c xs w hx hn).mono ?_
  rintro e w' ⟨v, rfl, ho, hb⟩
  obtain ⟨A, c, rfl, h⟩ := byts_of ho rfl
  exact ⟨⟨A, c, rfl, h⟩, hb⟩
/-- calls, their rows under names -/
def BitsN (xs : List Int) (k : Nat) (X : List Int) (er : Int) : Prop := ∀ (A : Option Addr) (c : Nat) (w : World), ReadsInt w .u8 A xs.length xs → Calls Try.prog 34 #[.slice A xs.length c, .int .i64 (k : Int)] w fun e w' => (∃ A c, e = .returned (.tuple #[.slice A X.length c, .int .i64 er]) ∧ Byts w.heap.size w' A c X) ∧ Below w.heap.size w w'
theorem bits_n {xs X : List Int} {k : Nat} {er : Int} (hw : ∀ x ∈ xs, (Lit.int .u8 x).wf = true) (hl : xs.length ≤ 1048576) (hk : k ≤ 8) (h : bitss xs k = (X, er)) : BitsN xs k X er := fun A c w hr => by
  have h2 := Bits_all A c xs hw k (by omega) hl w hr
  simp only [BitsP, h] at h2
  exact h2
def UnbN (L : List Int) (k : Nat) (m : Int) (X : List Int) (er : Int) : Prop := ∀ (A : Option Addr) (c : Nat) (w : World), ReadsInt w .u8 A L.length L → Calls Try.prog 36 #[.slice A L.length c, .int .i64 (k : Int), .int .i64 m] w fun e w' => (∃ A c, e = .returned (.tuple #[.slice A X.length c, .int .i64 er]) ∧ Byts w.heap.size w' A c X) ∧ Below w.heap.size w w'
theorem unb_n {L X : List Int} {k : Nat} {m er : Int} (hw : ∀ x ∈ L, (Lit.int .u8 x).wf = true) (hl : L.length ≤ 140737488355328) (hk : k ≤ 8) (hm : -9223372036854775808 ≤ m ∧ m ≤ 9223372036854775807) (h : unbs L k m = (X, er)) : UnbN L k m X er := fun A c w hr => by
  have h2 := Unbits_all A c L hw k m (by omega) hm hl w hr
  simp only [UnbP, h] at h2
  exact h2
theorem bits_ok {xs : List Int} {s : Nat} (h1 : 1 ≤ s) (h2 : s ≤ 8) (h : ∀ i, i < xs.length → val xs i < 2 ^ s) : bitss xs s = (V.bytes (V.part (val xs) s xs.length) ((xs.length * s + 7) / 8), 0) := by
  rw [bitss, if_neg]
  · simp
  · rintro (h3 | h3 | ⟨i, hi, h4⟩)
    · omega
    · omega
    · have := h i hi; rw [Int.toNat_natCast] at h4; omega

set_option maxRecDepth 100000 in
set_option maxHeartbeats 1000000 in
theorem row_any (A : Option Addr) (cap : Nat) (xs : List Int) (z : Int) (hz : 0 ≤ z ∧ z ≤ 255) (B : Option Addr) (cap2 : Nat) (zs : List Int) (w : World) (hr : ReadsInt w .u8 A xs.length xs) (hw : ∀ x ∈ xs, (Lit.int .u8 x).wf = true) (hr2 : ReadsInt w .u8 B zs.length zs) (hw2 : ∀ x ∈ zs, (Lit.int .u8 x).wf = true) (hz2 : zs.length ≤ 140737488351232) :
    Calls Try.prog 4 #[.slice A xs.length cap, .int .u8 z, .slice B zs.length cap2] w fun e w' => e = .returned (.bool true) ∧ Below w.heap.size w w' := by
  obtain ⟨z0, z1⟩ := hz
  have HB := Lib.hid (Below.refl w.heap.size w)
  have HR := Lib.hid hr
  have HZ := Lib.hid hr2
  have hlm := hr.2.1
  clear hr hr2
  by_cases hl : 3000 < xs.length
  · clear hw hw2
    go_enter Try.func4, Try.ntmps4
    go_wp2_with (first
      | (go_at_call 32; refine (lives_any _).mono ?_; rintro e w1 ⟨rfl, hb1⟩; replace HB := Lib.hid (below_ext HB.out hb1); clear hb1))
    go_ret
    exact ⟨ret_b (by simp), HB.out⟩
  · obtain ⟨K, hK⟩ : ∃ K : Nat, 1 + z % 8 = (K : Int) := ⟨(1 + z % 8).toNat, by omega⟩
    have hK1 : 1 ≤ K := by omega
    have hK8 : K ≤ 8 := by omega
    by_cases hb : ∃ i, i < xs.length ∧ 2 ^ K ≤ val xs i
    · have P1 := Lib.hid (bits_n hw (by omega) hK8 (bits_two hb) : BitsN xs K [] 2)
      have hK9 : K < 8 := by
        obtain ⟨i, _, h⟩ := hb
        refine Nat.lt_of_not_le fun h8 => ?_
        obtain rfl : K = 8 := by omega
        have := (val_rd hw i).2
        omega
      clear hb hw hw2
      go_enter Try.func4, Try.ntmps4
      go_wp2_with (first
        | (go_at_call 34; refine (P1.out A cap _ HR.out).mono ?_; rintro e w1 ⟨⟨A1, c1, rfl, o1⟩, hb1⟩; replace HB := Lib.hid (below_ext HB.out hb1); clear hb1)
        | (go_at_call 32; refine (lives_any _).mono ?_; rintro e w2 ⟨rfl, hb2⟩; replace HB := Lib.hid (below_ext HB.out hb2); clear hb2))
      go_ret
      exact ⟨ret_b (by simp), HB.out⟩
    · have hv : ∀ i, i < xs.length → val xs i < 2 ^ K := fun i hi => Nat.lt_of_not_le fun h => hb ⟨i, hi, h⟩
      obtain ⟨BS, hBS⟩ : ∃ BS, BS = V.bytes (V.part (val xs) K xs.length) ((xs.length * K + 7) / 8) := ⟨_, rfl⟩
      obtain ⟨P, hP⟩ : ∃ P, P = xs.length * K := ⟨_, rfl⟩
      have hP1 : (K : Int) * (xs.length : Int) = (P : Int) := by rw [hP, Nat.mul_comm]; exact (Int.natCast_mul _ _).symm
      have hP2 : P ≤ 24000 := by rw [hP]; exact Nat.le_trans (Nat.mul_le_mul (by omega : xs.length ≤ 3000) hK8) (by decide)
      have hB1 : BS.length = (P + 7) / 8 := by rw [hBS, V.bytes_length, hP]
      have hB2 : P ≤ 8 * BS.length := by omega
      have hB3 : 8 * BS.length < P + 8 := by omega
      have hB4 : BS.length ≤ 3000 := by omega
      have P1 := Lib.hid (bits_n hw (by omega) hK8 (by rw [bits_ok hK1 hK8 hv, hBS]) : BitsN xs K BS 0)
      have P3 := Lib.hid (unb_n (by rw [hBS]; exact bytes_wf _ _) (by omega) hK8 (by omega) (by rw [hBS]; exact unb_more hK1 hK8 (by omega)) : UnbN BS K ((xs.length : Int) + 8) [] 4)
      obtain ⟨L, hL⟩ : ∃ L, L = BS ++ zs := ⟨_, rfl⟩
      have HL := Lib.hid hL.symm
      have hLw : ∀ x ∈ L, (Lit.int .u8 x).wf = true := by rw [hL, hBS]; exact wf_append (bytes_wf _ _) hw2
      have hL1 : L.length ≤ 140737488355328 := by rw [hL, List.length_append]; omega
      have P2 := Lib.hid (unb_n hLw hL1 hK8 (by omega) (by rw [hL, hBS]; exact unb_bits hw hK1 hK8 (by omega) hv) : UnbN L K (xs.length : Int) xs 0)
      have HL5 := Lib.hid (show (BS.length + zs.length) * 1 ≤ 140737488355328 by omega)
      have HBL := Lib.hid (show BS.length ≤ 140737488355328 by omega)
      have hL2 : L.length ≤ 140737488355328 := hL1
      clear hb hv hBS hP hB1 hL hLw hw hw2 hL1
      go_enter Try.func4, Try.ntmps4
      go_wp2_with (first
        | (go_at_call 34; refine (P1.out A cap _ HR.out).mono ?_; rintro e w1 ⟨⟨A1, c1, rfl, o1⟩, hb1⟩; have O1 := Lib.hid o1; replace HB := Lib.hid (below_ext HB.out hb1); clear hb1)
        | (go_at_call 41; refine (copy_b A1 c1 BS _ O1.out.reads HBL.out).mono ?_; rintro e w2 ⟨⟨A2, c2, rfl, o2⟩, hb2⟩; have O2 := Lib.hid o2; have B2 := Lib.hid hb2; clear o2 hb2)
        | (at_builtin; refine print_append_row (w0 := w1) w1.heap.size rfl (.tmp 44) (.tmp 45) 22 5 .u8 1 rfl Try.underlying22 S.info_u8 (by decide) _ BS zs B zs.length cap2 rfl rfl O2.out (HZ.out.below (below_ext HB.out B2.out)) B2.out B2.out.size HL5.out ?_; intro v3 w3 ho3 hb3 hg3 hat3; rw [HL.out] at ho3; replace O1 := Lib.hid (O1.out.below hb3); replace HB := Lib.hid (below_ext HB.out hb3); obtain ⟨A5, c5, rfl, hr5⟩ := own_reads ho3; have R5 := Lib.hid hr5; clear ho3 hb3 hg3 hat3 hr5 O2 B2)
        | (go_at_call_of 36 (Value.slice A1 BS.length c1); refine (P3.out _ _ _ O1.out.reads).mono ?_; rintro e w4 ⟨⟨A7, c7, rfl, o7⟩, hb4⟩; replace O4 := Lib.hid (O4.out.below hb4); replace O1 := Lib.hid (O1.out.below hb4); replace HB := Lib.hid (below_ext HB.out hb4); clear hb4)
        | (go_at_call 36; refine (P2.out _ _ _ R5.out).mono ?_; rintro e w5 ⟨⟨A6, c6, rfl, o6⟩, hb5⟩; have O4 := Lib.hid o6; replace O1 := Lib.hid (O1.out.below hb5); replace HB := Lib.hid (below_ext HB.out hb5); clear hb5)
        | (go_at_call 38; refine (same_yes A6 A c6 cap xs _ O4.out.reads (HR.out.below HB.out)).mono ?_; rintro e w6 ⟨rfl, hb6⟩; replace HB := Lib.hid (below_ext HB.out hb6); clear hb6)
        | (go_at_call 32; refine (lives_any _).mono ?_; rintro e w7 ⟨rfl, hb7⟩; replace HB := Lib.hid (below_ext HB.out hb7); clear hb7))
      go_ret
      exact ⟨ret_b (by simp), HB.out⟩
theorem row_any' (A : Option Addr) (cap : Nat) (l : List Int) {w : World} (hr : ReadsInt w .u8 A l.length l) (y : l.length * 1 ≤ 140737488351232) (hw : ∀ x ∈ l, (Lit.int .u8 x).wf = true) (hc : l.length ≤ cap) (z : Int) (wz : (Lit.int .u8 z).wf = true)
    (B : Option Addr) (cap2 : Nat) (l2 : List Int) (hr2 : ReadsInt w .u8 B l2.length l2) (y2 : l2.length * 1 ≤ 140737488351232) (hw2 : ∀ x ∈ l2, (Lit.int .u8 x).wf = true) (hc2 : l2.length ≤ cap2) :
    Calls Try.prog 4 #[.slice A l.length cap, .int .u8 z, .slice B l2.length cap2] w fun e w' => e = .returned (.bool true) ∧ Below w.heap.size w w' := by
  obtain ⟨h1, h2⟩ := bounds_u8 wz
  exact row_any A cap l z (by omega) B cap2 l2 w hr hw hr2 hw2 (by omega)
end Go.Proofs.Ytdchcggllcgokaa.U
