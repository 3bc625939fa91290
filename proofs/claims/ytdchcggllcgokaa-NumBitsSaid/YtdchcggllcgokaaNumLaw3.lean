/-
  ashlarlaw01.NumBits: the walk.
-/
import Derived.Test.YtdchcggllcgokaaNumLaw2
import Derived.Test.YtdchcggllcgokaaSpoil
namespace Go.Proofs.Ytdchcggllcgokaa.U
open Go.RowKit Go.Proofs.Ytdchcggllcgokaa.L Go.Proofs.YtdchcggllcgokaaW.PrintWords
set_option linter.unusedVariables false
set_option linter.unusedSimpArgs false

theorem below_spoil {B b n : Nat} {w W W1 : World} {v : Value} {xs : List Value} {e size : Nat} (h : Below B w W) (hg : W.grownBy W1 v.ownBlock) (ho : W.ownsRow b e size v n xs) (hB : B ≤ b) (hs : B ≤ W.heap.size) : Below B w W1 :=
  pw_below_grown h v.ownBlock hs hg (fun k hk => Nat.le_trans hB (own_base ho k hk))
def BitsFN (xs : List Int) (s : Int) (X : List Int) (er : Int) : Prop := ∀ (A : Option Addr) (c : Nat) (w : World), ReadsInt w .u8 A xs.length xs → Calls Try.prog 34 #[.slice A xs.length c, .int .i64 s] w fun e w' => (∃ A, e = .returned (.tuple #[.slice A X.length X.length, .int .i64 er]) ∧ Byts w.heap.size w' A X.length X) ∧ Below w.heap.size w w'
def rBitsN (xs : List Int) (s : Int) (X : List Int) (er : Int) : Prop := ∀ (A : Option Addr) (c : Nat) (w : World), ReadsInt w .u8 A xs.length xs → Calls Try.prog 35 #[.slice A xs.length c, .int .i64 s] w fun e w' => (∃ A c, e = .returned (.tuple #[.slice A X.length c, .int .i64 er]) ∧ Byts w.heap.size w' A c X) ∧ Below w.heap.size w w'
def UnbFN (L : List Int) (s m : Int) (X : List Int) (er : Int) : Prop := ∀ (A : Option Addr) (c : Nat) (w : World), ReadsInt w .u8 A L.length L → Calls Try.prog 36 #[.slice A L.length c, .int .i64 s, .int .i64 m] w fun e w' => (∃ A, e = .returned (.tuple #[.slice A X.length X.length, .int .i64 er]) ∧ Byts w.heap.size w' A X.length X) ∧ Below w.heap.size w w'
def rUnbN (L : List Int) (s m : Int) (X : List Int) (er : Int) : Prop := ∀ (A : Option Addr) (c : Nat) (w : World), ReadsInt w .u8 A L.length L → Calls Try.prog 37 #[.slice A L.length c, .int .i64 s, .int .i64 m] w fun e w' => (∃ A c, e = .returned (.tuple #[.slice A X.length c, .int .i64 er]) ∧ Byts w.heap.size w' A c X) ∧ Below w.heap.size w w'
theorem unbs_wf (L : List Int) (s m : Int) : ∀ x ∈ (unbs L s m).1, (Lit.int .u8 x).wf = true := by
  unfold unbs
  split
  · intro x hx; cases hx
  · split
    · intro x hx; cases hx
    · exact items_wf _ _ _ (by omega)

set_option maxRecDepth 100000 in
set_option maxHeartbeats 2000000 in
theorem bits_any (A : Option Addr) (cap : Nat) (xs : List Int) (s : Int) (hs : -9223372036854775808 ≤ s ∧ s ≤ 9223372036854775807) (B : Option Addr) (cap2 : Nat) (zs : List Int) (m : Int) (hm : -9223372036854775808 ≤ m ∧ m ≤ 9223372036854775807) (w : World)
    (hr : ReadsInt w .u8 A xs.length xs) (hw : ∀ x ∈ xs, (Lit.int .u8 x).wf = true) (hr2 : ReadsInt w .u8 B zs.length zs) (hw2 : ∀ x ∈ zs, (Lit.int .u8 x).wf = true) (hz2 : zs.length ≤ 140737488351232) :
    Calls Try.prog 3 #[.slice A xs.length cap, .int .i64 s, .slice B zs.length cap2, .int .i64 m] w fun e w' => e = .returned (.bool true) ∧ Below w.heap.size w w' := by
  have HB := Lib.hid (Below.refl w.heap.size w)
  have HR := Lib.hid hr
  have HZ := Lib.hid hr2
  have hlm := hr.2.1
  clear hr hr2
  obtain ⟨m0, m1⟩ := hm
  rcases (by omega : 3000 < xs.length ∨ (xs.length ≤ 3000 ∧ 3000 < m ∧ m ≤ 1048576 ∧ 3000 < zs.length)
      ∨ (xs.length ≤ 3000 ∧ (m ≤ 3000 ∨ (3000 < m ∧ 1048576 < m) ∨ (3000 < m ∧ m ≤ 1048576 ∧ zs.length ≤ 3000)))) with hl | ⟨hl, h2, h3, h4⟩ | ⟨hl, hx⟩
  · clear hw hw2
    go_enter Try.func3, Try.ntmps3
    go_wp2_with (first
      | (go_at_call 32; refine (lives_any _).mono ?_; rintro e w1 ⟨rfl, hb1⟩; replace HB := Lib.hid (below_ext HB.out hb1); clear hb1))
    go_ret
    exact ⟨ret_b (by simp), HB.out⟩
  · clear hw hw2
    go_enter Try.func3, Try.ntmps3
    go_wp2_with (first
      | (go_at_call 32; refine (lives_any _).mono ?_; rintro e w1 ⟨rfl, hb1⟩; replace HB := Lib.hid (below_ext HB.out hb1); clear hb1))
    go_ret
    exact ⟨ret_b (by simp), HB.out⟩
  · obtain ⟨⟨X, e1⟩, hX⟩ : ∃ X, X = bitss xs s := ⟨_, rfl⟩
    obtain ⟨⟨Y, e2⟩, hY⟩ : ∃ Y, Y = unbs zs s m := ⟨_, rfl⟩
    have P1 : Hid (BitsFN xs s X e1) := Lib.hid fun A c w hr => by
      have h := Bits_full A c xs hw s hs (by omega) w hr
      simp only [BitsF, ← hX] at h
      exact h
    have P2 : Hid (rBitsN xs s X e1) := Lib.hid fun A c w hr => by
      have h := rBits_all A c xs hw s hs (by omega) w hr
      simp only [BitsP, ← hX] at h
      exact h
    have P3 : Hid (UnbFN zs s m Y e2) := Lib.hid fun A c w hr => by
      have h := Unbits_full A c zs hw2 s m hs ⟨m0, m1⟩ (by omega) w hr
      simp only [UnbF, ← hY] at h
      exact h
    have P4 : Hid (rUnbN zs s m Y e2) := Lib.hid fun A c w hr => by
      have h := rUnbits_all A c zs hw2 s m hs ⟨m0, m1⟩ (by omega) w hr
      simp only [UnbP, ← hY] at h
      exact h
    have HWX : Hid (∀ x ∈ X, (Lit.int .u8 x).wf = true) := Lib.hid (by have h := bitss_wf xs s; rwa [← hX] at h)
    have HWY : Hid (∀ x ∈ Y, (Lit.int .u8 x).wf = true) := Lib.hid (by have h := unbs_wf zs s m; rwa [← hY] at h)
    have HZ2 := Lib.hid hz2
    clear hX hY hw hw2 hs
    rcases hx with hx | ⟨hx, hx2⟩ | ⟨hx, hx2, hx3⟩
    all_goals
      go_enter Try.func3, Try.ntmps3
      go_wp2_with (first
        | (go_at_call_of 33 (Value.slice A xs.length cap); refine (wide_b A cap xs _ HR.out (by omega)).mono ?_; rintro e w1 ⟨⟨g1, rfl, r1⟩, hb1⟩; have W1 := Lib.hid r1; replace HB := Lib.hid (below_ext HB.out hb1); clear hb1)
        | (go_at_call 33; refine (wide_b B cap2 zs _ (HZ.out.below HB.out) HZ2.out).mono ?_; rintro e w2 ⟨⟨g2, rfl, r2⟩, hb2⟩; have W2 := Lib.hid r2; replace W1 := Lib.hid (W1.out.below hb2); replace HB := Lib.hid (below_ext HB.out hb2); clear hb2; have HC := Lib.hid (Below.refl w2.heap.size w2))
        | (go_at_call 34; refine (P1.out _ _ _ (S.wid_reads W1.out)).mono ?_; rintro e w3 ⟨⟨A1, rfl, o1⟩, hb3⟩; have O1 := Lib.hid o1; have S2 := Lib.hid HB.out.size; replace HB := Lib.hid (below_ext HB.out hb3); replace HC := Lib.hid (below_ext HC.out hb3); clear hb3)
        | (go_at_call 35; refine (P2.out _ _ _ (HR.out.below HB.out)).mono ?_; rintro e w4 ⟨⟨A2, c2, rfl, o2⟩, hb4⟩; have O2 := Lib.hid o2; replace O1 := Lib.hid (O1.out.below hb4); replace HB := Lib.hid (below_ext HB.out hb4); replace HC := Lib.hid (below_ext HC.out hb4); clear hb4)
        | (go_at_call 36; refine (P3.out _ _ _ (S.wid_reads (W2.out.below HC.out))).mono ?_; rintro e w5 ⟨⟨A3, rfl, o3⟩, hb5⟩; have O3 := Lib.hid o3; have KX := Lib.hid (own_lt O1.out); have S4 := Lib.hid HC.out.size; have T4 := Lib.hid HB.out.size; have T2 := Lib.hid (HB.out.size); replace O1 := Lib.hid (O1.out.below hb5); replace O2 := Lib.hid (O2.out.below hb5); replace HB := Lib.hid (below_ext HB.out hb5); replace HC := Lib.hid (below_ext HC.out hb5); clear hb5)
        | (go_at_call 37; refine (P4.out _ _ _ (HZ.out.below HB.out)).mono ?_; rintro e w6 ⟨⟨A4, c4, rfl, o4⟩, hb6⟩; have O4 := Lib.hid o4; replace O1 := Lib.hid (O1.out.below hb6); replace O2 := Lib.hid (O2.out.below hb6); replace O3 := Lib.hid (O3.out.below hb6); replace HB := Lib.hid (below_ext HB.out hb6); replace HC := Lib.hid (below_ext HC.out hb6); clear hb6)
        | (go_at_call_of 38 (Value.slice A1 X.length X.length); refine (same_yes A1 A2 X.length c2 X _ O1.out.reads O2.out.reads).mono ?_; rintro e w7 ⟨rfl, hb7⟩; replace O1 := Lib.hid (O1.out.below hb7); replace O2 := Lib.hid (O2.out.below hb7); replace O3 := Lib.hid (O3.out.below hb7); replace O4 := Lib.hid (O4.out.below hb7); replace HB := Lib.hid (below_ext HB.out hb7); replace HC := Lib.hid (below_ext HC.out hb7); clear hb7)
        | (go_at_call 38; refine (same_yes A3 A4 Y.length c4 Y _ O3.out.reads O4.out.reads).mono ?_; rintro e w8 ⟨rfl, hb8⟩; replace O1 := Lib.hid (O1.out.below hb8); replace O2 := Lib.hid (O2.out.below hb8); replace O3 := Lib.hid (O3.out.below hb8); replace O4 := Lib.hid (O4.out.below hb8); replace HB := Lib.hid (below_ext HB.out hb8); replace HC := Lib.hid (below_ext HC.out hb8); clear hb8)
        | (go_at_call_of 39 (Value.slice A1 X.length X.length); refine (Spoil_any _ A1 X.length X.length (Nat.le_refl _) O1.out.cap 1 (by decide) _ (O1.out.room HWX.out)).mono ?_; rintro e w9 ⟨rfl, hg9⟩; have HRm := Lib.hid ((O3.out.room HWY.out).grown hg9 KX.out); replace HB := Lib.hid (below_spoil HB.out hg9 O1.out S2.out HB.out.size); replace HC := Lib.hid (below_spoil HC.out hg9 O1.out (Nat.le_refl _) HC.out.size); have HCP := Lib.hid O3.out.cap; clear hg9 O1 O2 O3 O4)
        | (go_at_call 39; refine (Spoil_any _ A3 Y.length Y.length (Nat.le_refl _) HCP.out 1 (by decide) _ HRm.out).mono ?_; rintro e w10 ⟨rfl, hg10⟩; obtain ⟨zs9, _, _, ho9⟩ := HRm.out; replace HB := Lib.hid (below_spoil HB.out hg10 ho9 T4.out HB.out.size); replace HC := Lib.hid (below_spoil HC.out hg10 ho9 S4.out HC.out.size); clear hg10 ho9 HRm)
        | (go_at_call_of 40 (Value.slice A xs.length cap); refine (left_b g1 A cap xs _ (W1.out.below HC.out) (HR.out.below HB.out) (by omega)).mono ?_; rintro e w11 ⟨rfl, hb11⟩; replace HB := Lib.hid (below_ext HB.out hb11); replace HC := Lib.hid (below_ext HC.out hb11); clear hb11)
        | (go_at_call 40; refine (left_b g2 B cap2 zs _ (W2.out.below HC.out) (HZ.out.below HB.out) HZ2.out).mono ?_; rintro e w12 ⟨rfl, hb12⟩; replace HB := Lib.hid (below_ext HB.out hb12); replace HC := Lib.hid (below_ext HC.out hb12); clear hb12)
        | (go_at_call 32; refine (lives_any _).mono ?_; rintro e w13 ⟨rfl, hb13⟩; replace HB := Lib.hid (below_ext HB.out hb13); clear hb13))
      go_ret
      exact ⟨ret_b (by simp), HB.out⟩
theorem bits_any' (A : Option Addr) (cap : Nat) (l : List Int) {w : World} (hr : ReadsInt w .u8 A l.length l) (y : l.length * 1 ≤ 140737488351232) (hw : ∀ x ∈ l, (Lit.int .u8 x).wf = true) (hc : l.length ≤ cap) (s : Int) (ws : (Lit.int .i64 s).wf = true)
    (B : Option Addr) (cap2 : Nat) (l2 : List Int) (hr2 : ReadsInt w .u8 B l2.length l2) (y2 : l2.length * 1 ≤ 140737488351232) (hw2 : ∀ x ∈ l2, (Lit.int .u8 x).wf = true) (hc2 : l2.length ≤ cap2) (m : Int) (wm : (Lit.int .i64 m).wf = true) :
    Calls Try.prog 3 #[.slice A l.length cap, .int .i64 s, .slice B l2.length cap2, .int .i64 m] w fun e w' => e = .returned (.bool true) ∧ Below w.heap.size w w' :=
  bits_any A cap l s (bounds_i64 ws) B cap2 l2 m (bounds_i64 wm) w hr hw hr2 hw2 (by omega)
end Go.Proofs.Ytdchcggllcgokaa.U
