/-
  ashlarlaw07.SealBack: the walk.
-/
import Derived.Test.YtdchcggllcgokaaSealLaw1
namespace Go.Proofs.Ytdchcggllcgokaa.E
open Go.RowKit Go.Proofs.Ytdchcggllcgokaa.L Go.Proofs.Ytdchcggllcgokaa.U Go.Proofs.Ytdchcggllcgokaa.R Go.Proofs.YtdchcggllcgokaaW.PrintWords
set_option linter.unusedVariables false
set_option linter.unusedSimpArgs false

theorem pad_front {ys : List Int} {q : Nat} (h : q < ys.length) (k : Nat) : rd (ys ++ Z k) (q : Int) = rd ys (q : Int) := rd_append_left h
theorem pad_back {ys : List Int} {q k : Nat} (h : ys.length ≤ q) (h2 : q < ys.length + k) : rd (ys ++ Z k) (q : Int) = 0 := by
  obtain ⟨i, rfl⟩ : ∃ i, q = ys.length + i := ⟨q - ys.length, by omega⟩
  rw [rd_append_right]
  simp [rd, Z, List.getD_eq_getElem?_getD, List.getElem?_replicate, show i < k by omega]
set_option maxRecDepth 100000 in
set_option maxHeartbeats 1000000 in
theorem back_any (n : Nat) (hn : n < 18446744073709551616) (B : Option Addr) (cap : Nat) (ys : List Int) (hw : Wf8 ys) (w : World) (hr : ReadsInt w .u8 B ys.length ys) :
    Calls Try.prog 12 #[.int .u64 (n : Int), .slice B ys.length cap] w fun e w' => e = .returned (.bool true) ∧ Below w.heap.size w w' := by
  have HB := Lib.hid (Below.refl w.heap.size w)
  have HR := Lib.hid hr
  have hyl := hr.2.1
  have tok0 : True := trivial
  obtain ⟨⟨X, e⟩, hX⟩ : ∃ S, S = seals n ys := ⟨_, rfl⟩
  have hXl : X.length = 64 := by have h := seals_length n ys; rwa [← hX] at h
  have HX := Lib.hid hXl
  have P1 := Lib.hid (put_b hn hw hX.symm)
  rcases seals_err hX.symm with ⟨he, h0, hla, hX2⟩ | ⟨he, hq⟩ | ⟨he, hq, hq2⟩
  · subst he
    have hXw : Wf8 X := by rw [hX2]; exact sealed_wf n hw
    obtain ⟨D, hD⟩ : ∃ D, D = ys ++ Z (44 - ys.length) := ⟨_, rfl⟩
    have gX : gots X = (n, D, 0) := by rw [hX2, hD]; exact gots_sealed h0 hn hla
    have hDl : D.length = 44 := by rw [hD, List.length_append, Z_length]; omega
    have P2 : Hid (∀ w : World, Calls Try.prog 59 #[blk X] w fun e w' => (∃ A c, e = .returned (.tuple #[.int .u64 (n : Int), .slice A 44 c, .int .i64 0]) ∧ Byts w.heap.size w' A c D) ∧ Below w.heap.size w w') := Lib.hid fun w => by
      have h := Get_seal X hXl hXw w
      simp only [GotF, gX, hDl] at h
      exact h.mono fun _ _ ⟨⟨A, c, h1, h2, _⟩, h3⟩ => ⟨⟨A, c, h1, h2⟩, h3⟩
    have F1 := Lib.hid (show ∀ q : Nat, q < ys.length → rd D (q : Int) = rd ys (q : Int) from fun q h => by rw [hD]; exact pad_front h _)
    have F2 := Lib.hid (show ∀ q : Nat, ys.length ≤ q → q < 44 → rd D (q : Int) = 0 from fun q h h2 => by rw [hD]; exact pad_back h (by omega))
    have HDl := Lib.hid hDl
    clear hX hX2 hXl hXw gX hDl hD hw hr h0
    go_enter Try.func12, Try.ntmps12
    go_wp2_with (first
      | (go_skip)
      | (go_at_call 56; refine (P1.out _ _ _ (HR.out.below HB.out)).mono ?_; rintro e w1 ⟨rfl, hb1⟩; replace HB := Lib.hid (below_ext HB.out hb1); have hz1 := hb1.size; clear hb1)
      | (have _t := tok0; refine blkAlloc rfl rfl ?_; intro w2 hk hb2 hz2; replace HB := Lib.hid (below_ext HB.out hb2); have KA := Lib.hid hk; have tok1 : True := trivial; clear hk hb2 _t tok0)
      | (refine blkStore rfl (.tmp 5) (.tmp 15) rfl KA.out rfl rfl HX.out ?_; intro w3 hk hg; replace HB := Lib.hid (below_at HB.out hg (by omega) KA.out.lt); replace KA := Lib.hid hk; have hz3 := hg.size; clear hk hg)
      | (refine blkLoad rfl (.tmp 5) rfl KA.out rfl ?_)
      | (go_at_call 59; refine (P2.out _).mono ?_; rintro e w4 ⟨⟨A4, c4, rfl, o4⟩, hb4⟩; have O4 := Lib.hid o4; replace KA := Lib.hid (KA.out.below hb4); replace HB := Lib.hid (below_ext HB.out hb4); have hz4 := hb4.size; clear hb4; clear KA))
    have R4 := Lib.hid (show ReadsInt w4 .u8 A4 44 D from by have h := O4.out.reads; rw [HDl.out] at h; exact h)
    clear O4
    go_loopw [10] (fun i wr => ∃ q : Nat, q ≤ 44 ∧ i = .int .i64 q ∧ Hid (Below w4.heap.size w4 wr)) (fun i _ => 44 - (intOf i).toNat)
    case atStart => exact ⟨0, by omega, rfl, Lib.hid (Below.refl _ _)⟩
    case round =>
      obtain ⟨q, hq, rfl, HC⟩ := hrel
      by_cases hlt : q < 44
      · obtain ⟨ad, rfl, cx⟩ := (R4.out.below HC.out).at_ (q : Int) (by omega) (by omega)
        rw [Int.toNat_natCast] at cx
        have i0 : (0 : Int) ≤ (q : Int) := by omega
        by_cases hb : q < ys.length
        · rw [F1.out q hb] at cx
          obtain ⟨v, hv⟩ : ∃ v, v = rd ys (q : Int) := ⟨_, rfl⟩
          rw [← hv] at cx
          obtain ⟨ad2, rfl, cy⟩ := (HR.out.below (below_ext HB.out HC.out)).at_ (q : Int) (by omega) (by omega)
          rw [Int.toNat_natCast, ← hv] at cy
          have hvv : (v != v) = false := by simp
          clear hv
          have d1 : decide ((q : Int) < (ys.length : Int)) = true := by simp; omega
          have d2 : decide ((ys.length : Int) ≤ (q : Int)) = false := by simp; omega
          have d3 : decide (q < ys.length) = true := by simp; omega
          have d4 : decide (ys.length ≤ q) = false := by simp; omega
          go_wp2
          go_quiet (fail)
          go_wp2
          go_roundw
          case rel => exact ⟨q + 1, by omega, by go_num, Lib.hid (below_drewN HC.out _)⟩
          case measure => simp [intOf]; omega
        · rw [F2.out q (by omega) hlt] at cx
          have d1 : decide ((q : Int) < (ys.length : Int)) = false := by simp; omega
          have d2 : decide ((ys.length : Int) ≤ (q : Int)) = true := by simp; omega
          have d3 : decide (q < ys.length) = false := by simp; omega
          have d4 : decide (ys.length ≤ q) = true := by simp; omega
          go_wp2
          go_quiet (fail)
          go_wp2
          go_roundw
          case rel => exact ⟨q + 1, by omega, by go_num, Lib.hid (below_drewN HC.out _)⟩
          case measure => simp [intOf]; omega
      · obtain rfl : q = 44 := by omega
        replace HB := Lib.hid (below_ext HB.out HC.out)
        go_wp2_with (first
          | (go_skip)
          | (go_at_call 58; refine (lives_any _).mono ?_; rintro e w1 ⟨rfl, hb1⟩; replace HB := Lib.hid (below_ext HB.out hb1); clear hb1))
        go_ret
        exact ⟨ret_b (by simp), HB.out⟩
  · subst he
    subst hq
    clear hX hXl hw hr hn
    go_enter Try.func12, Try.ntmps12
    go_wp2_with (first
      | (go_skip)
      | (go_at_call 56; refine (P1.out _ _ _ (HR.out.below HB.out)).mono ?_; rintro e w1 ⟨rfl, hb1⟩; replace HB := Lib.hid (below_ext HB.out hb1); have hz1 := hb1.size; clear hb1)
      | (have _t := tok0; refine blkAlloc rfl rfl ?_; intro w2 hk hb2 hz2; replace HB := Lib.hid (below_ext HB.out hb2); have KA := Lib.hid hk; have tok1 : True := trivial; clear hk hb2 _t tok0)
      | (refine blkStore rfl (.tmp 5) (.tmp 15) rfl KA.out rfl rfl HX.out ?_; intro w3 hk hg; replace HB := Lib.hid (below_at HB.out hg (by omega) KA.out.lt); replace KA := Lib.hid hk; have hz3 := hg.size; clear hk hg)
      | (go_at_call 58; refine (lives_any _).mono ?_; rintro e w4 ⟨rfl, hb4⟩; replace HB := Lib.hid (below_ext HB.out hb4); clear hb4))
    go_ret
    exact ⟨ret_b (by simp), HB.out⟩
  · subst he
    have e1 : ((n : Int) == 0) = false := by simp; omega
    have e2 : (0 : Int) < (n : Int) := by omega
    clear hX hXl hw hr hq
    go_enter Try.func12, Try.ntmps12
    go_wp2_with (first
      | (go_skip)
      | (go_at_call 56; refine (P1.out _ _ _ (HR.out.below HB.out)).mono ?_; rintro e w1 ⟨rfl, hb1⟩; replace HB := Lib.hid (below_ext HB.out hb1); have hz1 := hb1.size; clear hb1)
      | (have _t := tok0; refine blkAlloc rfl rfl ?_; intro w2 hk hb2 hz2; replace HB := Lib.hid (below_ext HB.out hb2); have KA := Lib.hid hk; have tok1 : True := trivial; clear hk hb2 _t tok0)
      | (refine blkStore rfl (.tmp 5) (.tmp 15) rfl KA.out rfl rfl HX.out ?_; intro w3 hk hg; replace HB := Lib.hid (below_at HB.out hg (by omega) KA.out.lt); replace KA := Lib.hid hk; have hz3 := hg.size; clear hk hg)
      | (go_at_call 58; refine (lives_any _).mono ?_; rintro e w4 ⟨rfl, hb4⟩; replace HB := Lib.hid (below_ext HB.out hb4); clear hb4))
    go_ret
    exact ⟨ret_b (by simp), HB.out⟩
theorem back_any' (n : Int) (wn : (Lit.int .u64 n).wf = true) (B : Option Addr) (cap : Nat) (l : List Int) {w : World} (hr : ReadsInt w .u8 B l.length l) (y : l.length * 1 ≤ 140737488351232) (hw : ∀ x ∈ l, (Lit.int .u8 x).wf = true) (hc : l.length ≤ cap) :
    Calls Try.prog 12 #[.int .u64 n, .slice B l.length cap] w fun e w' => e = .returned (.bool true) ∧ Below w.heap.size w w' := by
  obtain ⟨n, rfl, hn⟩ := u64_nat wn
  exact back_any n hn B cap l hw w hr
end Go.Proofs.Ytdchcggllcgokaa.E
