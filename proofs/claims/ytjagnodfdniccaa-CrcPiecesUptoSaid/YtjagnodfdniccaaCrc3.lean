/-
  crc.More, Of, Zeros, and ashlarref02's.
-/
import Derived.Test.YtjagnodfdniccaaCrc2
namespace Go.Proofs.Ytjagnodfdniccaa.C
open Go.RowKit Go.Proofs.Ytjagnodfdniccaa.L Go.Proofs.YtjagnodfdniccaaW.PrintWords
set_option linter.unusedVariables false

/-- bytes as whole numbers -/
def by8 (bs : List (BitVec 8)) : List Int := bs.map fun b => (b.toNat : Int)
@[simp] theorem by8_length (bs : List (BitVec 8)) : (by8 bs).length = bs.length := by simp [by8]
theorem by8_append (a b : List (BitVec 8)) : by8 (a ++ b) = by8 a ++ by8 b := by simp [by8]
theorem by8_rd (bs : List (BitVec 8)) (q : Nat) (h : q < bs.length) : rd (by8 bs) (q : Int) = (bs[q].toNat : Int) := by
  simp [rd, by8, List.getD_eq_getElem?_getD, List.getElem?_map, List.getElem?_eq_getElem h]
theorem by8_of (l : List Int) (h : ∀ x ∈ l, (Lit.int .u8 x).wf = true) : ∃ bs : List (BitVec 8), l = by8 bs := by
  refine ⟨l.map fun x => BitVec.ofNat 8 x.toNat, ?_⟩
  rw [by8, List.map_map]
  conv => lhs; rw [← List.map_id l]
  apply List.map_congr_left
  intro x hx
  obtain ⟨h1, h2⟩ := bounds_u8 (h x hx)
  simp only [id, Function.comp, BitVec.toNat_ofNat]
  omega
theorem u32_inv (s : BitVec 32) : bits .xor .u32 IntKind.u32.max (s.toNat : Int) = ((~~~ s).toNat : Int) := by
  have h := u32_xor (BitVec.allOnes 32) s
  rw [BitVec.allOnes_xor] at h
  exact h
theorem fold_take_succ (r : BitVec 32) (bs : List (BitVec 8)) (q : Nat) (h : q < bs.length) : fold r (bs.take (q + 1)) = take (fold r (bs.take q)) bs[q] := by
  rw [List.take_succ_eq_append_getElem h, fold_append]; rfl

set_option maxHeartbeats 400000 in
theorem More_any (s : BitVec 32) (A : Option Addr) (cap : Nat) (bs : List (BitVec 8)) (w : World) (hr : ReadsInt w .u8 A bs.length (by8 bs)) (hn : bs.length ≤ 9223372036854775807) :
    Calls Try.prog 22 #[.int .u32 (s.toNat : Int), .slice A bs.length cap] w fun e w' => e = .returned (.int .u32 ((more s bs).toNat : Int)) ∧ Below w.heap.size w w' := by
  have hs := s.isLt
  have HR := Lib.hid hr
  clear hr
  obtain ⟨p, hp⟩ : ∃ p, p = ~~~ s := ⟨_, rfl⟩
  have e1 : bits .xor .u32 IntKind.u32.max (s.toNat : Int) = (p.toNat : Int) := by rw [hp]; exact u32_inv s
  have HF := Lib.hid (show ~~~ (fold p bs) = more s bs by rw [hp]; rfl)
  have hpl := p.isLt
  clear hp
  go_enter Try.func22, Try.ntmps22
  go_wp2
  go_loopw [5, 12] (fun x i wr => ∃ q : Nat, q ≤ bs.length ∧ i = .int .i64 q ∧ x = .int .u32 ((fold p (bs.take q)).toNat : Int) ∧ Hid (Below w.heap.size w wr)) (fun _ i _ => bs.length - (intOf i).toNat)
  case atStart => exact ⟨0, Nat.zero_le _, rfl, rfl, Lib.hid (Below.refl _ _)⟩
  case round =>
    obtain ⟨q, hq, rfl, rfl, HB⟩ := hrel
    obtain ⟨R, hR⟩ : ∃ R, R = fold p (bs.take q) := ⟨_, rfl⟩
    rw [← hR]
    by_cases hlt : q < bs.length
    · obtain ⟨ad, rfl, cx⟩ := (HR.out.below HB.out).at_ (q : Int) (by omega) (by omega)
      simp only [Int.toNat_natCast] at cx
      rw [by8_rd bs q hlt] at cx
      obtain ⟨b, hb⟩ : ∃ b, b = bs[q] := ⟨_, rfl⟩
      rw [← hb] at cx
      have HX := Lib.hid (show fold p (bs.take (q + 1)) = take R b by rw [fold_take_succ p bs q hlt, hR, hb])
      have hbl := b.isLt
      have hRl := R.isLt
      clear hR hb
      go_wp2_with (first
        | (go_at_call 20; refine (Take_any R b _).mono ?_; rintro e w1 ⟨rfl, hb1⟩; have B1 := Lib.hid (below_ext HB.out hb1); clear hb1))
      go_roundw
      case rel => exact ⟨q + 1, by omega, by go_num, by rw [HX.out], B1⟩
      case measure => simp [intOf]; omega
    · have e2 : bits .xor .u32 IntKind.u32.max (R.toNat : Int) = ((more s bs).toNat : Int) := by
        rw [← HF.out, hR, List.take_of_length_le (by omega)]; exact u32_inv _
      have hRl := R.isLt
      clear hR
      go_wp2
      go_ret
      exact ⟨rfl, HB.out⟩

set_option maxHeartbeats 400000 in
theorem rMore_any (s : BitVec 32) (A : Option Addr) (cap : Nat) (bs : List (BitVec 8)) (w : World) (hr : ReadsInt w .u8 A bs.length (by8 bs)) (hn : bs.length ≤ 9223372036854775807) :
    Calls Try.prog 23 #[.int .u32 (s.toNat : Int), .slice A bs.length cap] w fun e w' => e = .returned (.int .u32 ((more s bs).toNat : Int)) ∧ Below w.heap.size w w' := by
  have hs := s.isLt
  have HR := Lib.hid hr
  clear hr
  obtain ⟨p, hp⟩ : ∃ p, p = ~~~ s := ⟨_, rfl⟩
  have e1 : bits .xor .u32 IntKind.u32.max (s.toNat : Int) = (p.toNat : Int) := by rw [hp]; exact u32_inv s
  have HF := Lib.hid (show ~~~ (fold p bs) = more s bs by rw [hp]; rfl)
  have hpl := p.isLt
  clear hp
  go_enter Try.func23, Try.ntmps23
  go_wp2
  go_loopw [5, 6] (fun x i wr => ∃ q : Nat, q ≤ bs.length ∧ i = .int .i64 q ∧ x = .int .u32 ((fold p (bs.take q)).toNat : Int) ∧ Hid (Below w.heap.size w wr)) (fun _ i _ => bs.length - (intOf i).toNat)
  case atStart => exact ⟨0, Nat.zero_le _, rfl, rfl, Lib.hid (Below.refl _ _)⟩
  case round =>
    obtain ⟨q, hq, rfl, rfl, HB⟩ := hrel
    obtain ⟨R, hR⟩ : ∃ R, R = fold p (bs.take q) := ⟨_, rfl⟩
    rw [← hR]
    by_cases hlt : q < bs.length
    · obtain ⟨ad, rfl, cx⟩ := (HR.out.below HB.out).at_ (q : Int) (by omega) (by omega)
      simp only [Int.toNat_natCast] at cx
      rw [by8_rd bs q hlt] at cx
      obtain ⟨b, hb⟩ : ∃ b, b = bs[q] := ⟨_, rfl⟩
      rw [← hb] at cx
      have HX := Lib.hid (show fold p (bs.take (q + 1)) = take R b by rw [fold_take_succ p bs q hlt, hR, hb])
      have hbl := b.isLt
      have hRl := R.isLt
      clear hR hb
      go_wp2_with (first
        | (go_at_call 21; refine (rTake_any R b _).mono ?_; rintro e w1 ⟨rfl, hb1⟩; subst hb1; have B1 := Lib.hid HB.out))
      go_roundw
      case rel => exact ⟨q + 1, by omega, by go_num, by rw [HX.out], B1⟩
      case measure => simp [intOf]; omega
    · have e2 : bits .xor .u32 IntKind.u32.max (R.toNat : Int) = ((more s bs).toNat : Int) := by
        rw [← HF.out, hR, List.take_of_length_le (by omega)]; exact u32_inv _
      have hRl := R.isLt
      clear hR
      go_wp2
      go_ret
      exact ⟨rfl, HB.out⟩

end Go.Proofs.Ytjagnodfdniccaa.C
