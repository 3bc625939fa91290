/-
  ashlarlaw07.SealGets: the walk.
-/
import Derived.Test.YtdchcggllcgokaaSealLaw1
namespace Go.Proofs.Ytdchcggllcgokaa.E
open Go.RowKit Go.Proofs.Ytdchcggllcgokaa.L Go.Proofs.Ytdchcggllcgokaa.U Go.Proofs.Ytdchcggllcgokaa.R Go.Proofs.YtdchcggllcgokaaW.PrintWords
set_option linter.unusedVariables false
set_option linter.unusedSimpArgs false

section
variable {W W1 w : World} {A : Option Addr} {c b : Nat}
theorem rbase (h : Room b W A c) : ∀ k, Value.ownBlock (.slice A c c) = some k → b ≤ k := by
  obtain ⟨zs, _, _, h3⟩ := h
  exact own_base h3
theorem rblock (h : Room b W A c) : ∀ k, Value.ownBlock (.slice A c c) = some k → k < W.heap.size := by
  obtain ⟨zs, _, _, h3⟩ := h
  exact own_lt h3
theorem blk_apart {g : Nat} {xs : List Int} (h : Blk W g xs) (hg : W.grownBy W1 (Value.ownBlock (.slice A c c))) (hr : Room b W A c) (hlt : g < b) : Blk W1 g xs :=
  ⟨h.1, blk_grown h.2 hg (fun e => by have := rbase hr g e.symm; omega)⟩
theorem byts_apart {b2 c2 : Nat} {A2 : Option Addr} {ys : List Int} (h : Byts b2 W A2 c2 ys) (hg : W.grownBy W1 (Value.ownBlock (.slice A c c))) (hk : ∀ k, Value.ownBlock (.slice A c c) = some k → k < b2) : Byts b2 W1 A2 c2 ys := by
  refine own_other h hg ?_
  cases hb : Value.ownBlock (.slice A2 ys.length c2) with
  | none => exact .inl rfl
  | some k =>
    refine .inr fun e => ?_
    have := own_base h k hb
    have := hk k e.symm
    omega
theorem below_room {B : Nat} (h : Below B w W) (hg : W.grownBy W1 (Value.ownBlock (.slice A c c))) (hr : Room b W A c) (hB : B ≤ b) (hs : B ≤ W.heap.size) : Below B w W1 :=
  pw_below_grown h _ hs hg (fun k hk => Nat.le_trans hB (rbase hr k hk))
end
set_option maxRecDepth 100000 in
set_option maxHeartbeats 2000000 in
theorem gets_any (xs ys : List Int) (hx : xs.length = 64) (hwx : Wf8 xs) (hy : ys.length = 64) (hwy : Wf8 ys) (w : World) :
    Calls Try.prog 11 #[blk xs, blk ys] w fun e w' => e = .returned (.bool true) ∧ Below w.heap.size w w' := by
  have HB := Lib.hid (Below.refl w.heap.size w)
  have HX := Lib.hid hx
  have HY := Lib.hid hy
  have tokA : True := trivial
  obtain ⟨⟨n, X, k⟩, hG⟩ : ∃ G, G = gots xs := ⟨_, rfl⟩
  obtain ⟨⟨p, r⟩, hN⟩ : ∃ G, G = news xs ys := ⟨_, rfl⟩
  have hn : n < 18446744073709551616 := by have h := gots_lt hwx; rwa [← hG] at h
  have P1 : Hid (∀ w : World, Calls Try.prog 59 #[blk xs] w fun e w' => (∃ A c, e = .returned (.tuple #[.int .u64 (n : Int), .slice A X.length c, .int .i64 k]) ∧ Byts w.heap.size w' A c X ∧ Room w.heap.size w' A c) ∧ Below w.heap.size w w') := Lib.hid fun w => by
    have h := Get_seal xs hx hwx w
    simp only [GotF, ← hG] at h
    exact h
  have P2 : Hid (∀ w : World, Calls Try.prog 60 #[blk xs] w fun e w' => (∃ A c, e = .returned (.tuple #[.int .u64 (n : Int), .slice A X.length c, .int .i64 k]) ∧ Byts w.heap.size w' A c X) ∧ Below w.heap.size w w') := Lib.hid fun w => by
    have h := rGet_seal xs hx hwx w
    simp only [GotP, ← hG] at h
    exact h
  have P3 : Hid (∀ w : World, Calls Try.prog 61 #[blk xs, blk ys] w fun e w' => e = .returned (.tuple #[.int .i64 p, .int .i64 r]) ∧ Below w.heap.size w w') := Lib.hid fun w => by
    have h := Newest_any xs ys hx hwx hy hwy w
    simp only [← hN] at h
    exact h
  have P4 : Hid (∀ w : World, Calls Try.prog 62 #[blk xs, blk ys] w fun e w' => e = .returned (.tuple #[.int .i64 p, .int .i64 r]) ∧ Below w.heap.size w w') := Lib.hid fun w => by
    have h := rNewest_any xs ys hx hwx hy hwy w
    simp only [← hN] at h
    exact h
  clear hG hN hx hwx hy hwy
  go_enter Try.func11, Try.ntmps11
  go_wp2_with (first
    | (go_skip)
    | (refine blkBox rfl (.tmp 0) rfl rfl HX.out ?_; intro w1 hk hb1 hz1; replace HB := Lib.hid (below_ext HB.out hb1); have K := Lib.hid hk; clear hk hb1)
    | (refine blkBox rfl (.tmp 1) rfl rfl HY.out ?_; intro w2 hk hb2 hz2; replace K := Lib.hid (K.out.below hb2); replace HB := Lib.hid (below_ext HB.out hb2); have K2 := Lib.hid hk; clear hk hb2)
    | (refine blkLoad rfl (.tmp 2) rfl K.out rfl ?_)
    | (refine blkLoad rfl (.tmp 3) rfl K2.out rfl ?_)
    | (have _t := tokA; go_at_call 59; refine (P1.out _).mono ?_; rintro e w3 ⟨⟨A1, c1, rfl, o1, r1⟩, hb3⟩; have O1 := Lib.hid o1; have R1 := Lib.hid r1; have HS := Lib.hid HB.out.size; have KX := Lib.hid (rblock r1); replace K := Lib.hid (K.out.below hb3); replace K2 := Lib.hid (K2.out.below hb3); replace HB := Lib.hid (below_ext HB.out hb3); have hz3 := hb3.size; clear hb3; have tokB : True := trivial; clear tokA _t)
    | (go_at_call 60; refine (P2.out _).mono ?_; rintro e w4 ⟨⟨A2, c2, rfl, o2⟩, hb4⟩; have O2 := Lib.hid o2; replace K := Lib.hid (K.out.below hb4); replace K2 := Lib.hid (K2.out.below hb4); replace O1 := Lib.hid (O1.out.below hb4); replace R1 := Lib.hid (R1.out.below hb4); replace HB := Lib.hid (below_ext HB.out hb4); have hz4 := hb4.size; clear hb4)
    | (go_at_call 61; refine (P3.out _).mono ?_; rintro e w5 ⟨rfl, hb5⟩; replace K := Lib.hid (K.out.below hb5); replace K2 := Lib.hid (K2.out.below hb5); replace O1 := Lib.hid (O1.out.below hb5); replace R1 := Lib.hid (R1.out.below hb5); replace O2 := Lib.hid (O2.out.below hb5); replace HB := Lib.hid (below_ext HB.out hb5); have hz5 := hb5.size; clear hb5)
    | (go_at_call 62; refine (P4.out _).mono ?_; rintro e w6 ⟨rfl, hb6⟩; replace K := Lib.hid (K.out.below hb6); replace K2 := Lib.hid (K2.out.below hb6); replace O1 := Lib.hid (O1.out.below hb6); replace R1 := Lib.hid (R1.out.below hb6); replace O2 := Lib.hid (O2.out.below hb6); replace HB := Lib.hid (below_ext HB.out hb6); have hz6 := hb6.size; clear hb6)
    | (go_at_call_of 38 (Value.slice A1 X.length c1); refine (same_yes A1 A2 c1 c2 X _ O1.out.reads O2.out.reads).mono ?_; rintro e w7 ⟨rfl, hb7⟩; replace K := Lib.hid (K.out.below hb7); replace K2 := Lib.hid (K2.out.below hb7); replace O1 := Lib.hid (O1.out.below hb7); replace R1 := Lib.hid (R1.out.below hb7); replace O2 := Lib.hid (O2.out.below hb7); replace HB := Lib.hid (below_ext HB.out hb7); have hz7 := hb7.size; clear hb7)
    | (go_at_call 39; refine (Spoil_any _ A1 X.length c1 O1.out.le O1.out.cap 9 (by decide) _ R1.out).mono ?_; rintro e w8 ⟨rfl, hg⟩; replace HB := Lib.hid (below_room HB.out hg R1.out HS.out HB.out.size); replace K := Lib.hid (blk_apart K.out hg R1.out (by omega)); replace K2 := Lib.hid (blk_apart K2.out hg R1.out (by omega)); replace O2 := Lib.hid (byts_apart O2.out hg KX.out); clear hg O1 R1)
    | (have _t := tokB; go_at_call 59; refine (P1.out _).mono ?_; rintro e w9 ⟨⟨A3, c3, rfl, o3, r3⟩, hb9⟩; have O3 := Lib.hid o3; replace K := Lib.hid (K.out.below hb9); replace K2 := Lib.hid (K2.out.below hb9); replace O2 := Lib.hid (O2.out.below hb9); replace HB := Lib.hid (below_ext HB.out hb9); have hz9 := hb9.size; clear hb9; clear tokB _t)
    | (go_at_call_of 38 (Value.slice A3 X.length c3); refine (same_yes A3 A2 c3 c2 X _ O3.out.reads O2.out.reads).mono ?_; rintro e w10 ⟨rfl, hb10⟩; replace K := Lib.hid (K.out.below hb10); replace K2 := Lib.hid (K2.out.below hb10); replace O2 := Lib.hid (O2.out.below hb10); replace O3 := Lib.hid (O3.out.below hb10); replace HB := Lib.hid (below_ext HB.out hb10); have hz10 := hb10.size; clear hb10)
    | (go_at_call 58; refine (lives_any _).mono ?_; rintro e w11 ⟨rfl, hb11⟩; replace HB := Lib.hid (below_ext HB.out hb11); clear hb11))
  go_ret
  exact ⟨ret_b (by simp), HB.out⟩
theorem gets_any' (xs : List Int) (hx : xs.length = 64) (hwx : ∀ x ∈ xs, (Lit.int .u8 x).wf = true) (ys : List Int) (hy : ys.length = 64) (hwy : ∀ x ∈ ys, (Lit.int .u8 x).wf = true) (w : World) :
    Calls Try.prog 11 #[.agg (xs.map fun x => Value.int .u8 x).toArray, .agg (ys.map fun x => Value.int .u8 x).toArray] w fun e w' => e = .returned (.bool true) ∧ Below w.heap.size w w' :=
  gets_any xs ys hx hwx hy hwy w
end Go.Proofs.Ytdchcggllcgokaa.E
