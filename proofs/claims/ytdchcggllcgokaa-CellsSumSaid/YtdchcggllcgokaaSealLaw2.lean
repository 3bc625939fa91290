/-
  ashlarlaw07.SealByte, SealTorn: the walks.
-/
import Derived.Test.YtdchcggllcgokaaSealM
import Derived.Test.YtdchcggllcgokaaSealLaw1
namespace Go.Proofs.Ytdchcggllcgokaa.E
open Go.RowKit Go.Proofs.Ytdchcggllcgokaa.L Go.Proofs.Ytdchcggllcgokaa.U Go.Proofs.Ytdchcggllcgokaa.R Go.Proofs.YtdchcggllcgokaaW.PrintWords
set_option linter.unusedVariables false
set_option linter.unusedSimpArgs false

theorem u8_xor (a b : Nat) (ha : a < 256) (hb : b < 256) : bits .xor .u8 (a : Int) (b : Int) = ((a ^^^ b : Nat) : Int) := by
  show IntKind.u8.wrap ((BitVec.ofInt 8 (a : Int) ^^^ BitVec.ofInt 8 (b : Int)).toNat : Int) = _
  rw [BitVec.ofInt_natCast, BitVec.ofInt_natCast, BitVec.toNat_xor, BitVec.toNat_ofNat, BitVec.toNat_ofNat, Nat.mod_eq_of_lt ha, Nat.mod_eq_of_lt hb]
  have h := Nat.xor_lt_two_pow (n := 8) ha hb
  exact IntWalk.u8_in _ (by omega)
theorem xor_same {a b : Nat} : a ^^^ b = a ↔ b = 0 := by
  constructor
  · intro h
    have h2 : a ^^^ (a ^^^ b) = a ^^^ a := by rw [h]
    rw [← Nat.xor_assoc, Nat.xor_self, Nat.zero_xor] at h2
    exact h2
  · rintro rfl; exact Nat.xor_zero a
set_option maxRecDepth 100000 in
set_option maxHeartbeats 2000000 in
theorem byte_any (n : Nat) (hn : n < 18446744073709551616) (B : Option Addr) (cap : Nat) (ys : List Int) (hw : Wf8 ys) (a : Int) (ha : 0 ≤ a ∧ a ≤ 255) (y : Int) (hy : 0 ≤ y ∧ y ≤ 255) (w : World) (hr : ReadsInt w .u8 B ys.length ys) :
    Calls Try.prog 14 #[.int .u64 (n : Int), .slice B ys.length cap, .int .u8 a, .int .u8 y] w fun e w' => e = .returned (.bool true) ∧ Below w.heap.size w w' := by
  have HB := Lib.hid (Below.refl w.heap.size w)
  have HR := Lib.hid hr
  have tok0 : True := trivial
  obtain ⟨⟨X, e⟩, hX⟩ : ∃ S, S = seals n ys := ⟨_, rfl⟩
  have hXl : X.length = 64 := by have h := seals_length n ys; rwa [← hX] at h
  have HX := Lib.hid hXl
  have P1 := Lib.hid (put_b hn hw hX.symm)
  rcases seals_err hX.symm with ⟨he, h0, hla, hX2⟩ | ⟨he, hq⟩ | ⟨he, hq⟩
  · obtain ⟨k, hk⟩ : ∃ k : Nat, a % 64 = (k : Int) := ⟨(a % 64).toNat, by omega⟩
    have hk64 : k < 64 := by omega
    have hXw : Wf8 X := by rw [hX2]; exact sealed_wf n hw
    have hrd := rd_byte hXw k
    obtain ⟨x, hx⟩ : ∃ x : Nat, rd X (k : Int) = (x : Int) := ⟨(rd X (k : Int)).toNat, by omega⟩
    obtain ⟨c, rfl⟩ : ∃ c : Nat, y = (c : Int) := ⟨y.toNat, by omega⟩
    obtain ⟨v, hv⟩ : ∃ v, v = x ^^^ c := ⟨_, rfl⟩
    have hv8 : v < 256 := by rw [hv]; exact Nat.xor_lt_two_pow (n := 8) (by omega) (by omega)
    have e1 : bits .xor .u8 (rd X (k : Int)) (c : Int) = (v : Int) := by rw [hx, hv]; exact u8_xor x c (by omega) (by omega)
    have hvw : (Lit.int .u8 (v : Int)).wf = true := WalkArith.wf_u8 (by omega)
    have hTl : (X.set k (v : Int)).length = 64 := by rw [List.length_set]; exact hXl
    obtain ⟨f, hf⟩ : ∃ f, f = (gots (X.set k (v : Int))).2.2 := ⟨_, rfl⟩
    obtain ⟨g, hg⟩ : ∃ g, g = (gots (X.set k (v : Int))).1 := ⟨_, rfl⟩
    obtain ⟨T, hT⟩ : ∃ T, T = X.set k (v : Int) := ⟨_, rfl⟩
    have HT := Lib.hid hT.symm
    have P2 := Lib.hid (show GetN T g f from by rw [hf, hg, hT]; exact get_n hTl (set_wf hXw hvw))
    have hgl : g < 18446744073709551616 := by rw [hg]; exact gots_lt (set_wf hXw hvw)
    obtain ⟨a0, a1⟩ := ha
    obtain ⟨y0, y1⟩ := hy
    have he' := he
    subst he'
    have r0 : 0 ≤ rd X (k : Int) ∧ rd X (k : Int) ≤ 255 := by omega
    obtain ⟨r1, r2⟩ := r0
    by_cases hc : c = 0
    · have hv2 : (v : Int) = rd X (k : Int) := by rw [hx, hv, hc, Nat.xor_zero]
      have hf0 : f = 0 := by
        rw [hf, hv2, set_same (by omega), hX2, gots_sealed h0 hn hla]
      subst hf0
      have c0 : ((c : Int) == 0) = true := by simp [hc]
      clear hX hX2 hXl hXw hrd hx hv hvw hTl hf hv2 he hw hr h0 hla hn hc hg hT
      go_enter Try.func14, Try.ntmps14
      go_wp2_with (first
        | (go_at_call 56; refine (P1.out _ _ _ (HR.out.below HB.out)).mono ?_; rintro e w1 ⟨rfl, hb1⟩; replace HB := Lib.hid (below_ext HB.out hb1); have hz1 := hb1.size; clear hb1)
        | (have _t := tok0; refine blkAlloc rfl rfl ?_; intro w2 hk hb2 hz2; replace HB := Lib.hid (below_ext HB.out hb2); have KA := Lib.hid hk; have tok1 : True := trivial; clear hk hb2 _t tok0)
        | (refine blkStore rfl (.tmp 9) (.tmp 20) rfl KA.out rfl rfl HX.out ?_; intro w3 hk hg; replace HB := Lib.hid (below_at HB.out hg (by omega) KA.out.lt); replace KA := Lib.hid hk; have hz3 := hg.size; clear hk hg)
        | (refine blkLoad rfl (.tmp 9) rfl KA.out rfl ?_)
        | (have _t := tok1; refine blkAlloc rfl rfl ?_; intro w4 hk hb4 hz4; replace KA := Lib.hid (KA.out.below hb4); replace HB := Lib.hid (below_ext HB.out hb4); have KC := Lib.hid hk; have tok2 : True := trivial; clear hk hb4 _t tok1)
        | (refine blkStore rfl (.tmp 11) (.tmp 25) rfl KC.out rfl rfl HX.out ?_; intro w5 hk hg; replace HB := Lib.hid (below_at HB.out hg (by omega) KC.out.lt); replace KA := Lib.hid (KA.out.grown hg (by omega)); replace KC := Lib.hid hk; have hz5 := hg.size; clear hk hg)
        | (refine rowCell rfl _ (.tmp 31) rfl (KC.out.cell k hk64) rfl agg_u8 ?_)
        | (refine blkSet rfl (.tmp 35) (.tmp 34) rfl KC.out k hk64 rfl _ rfl ?_; intro w6 hk hg; rw [HT.out] at hk; replace HB := Lib.hid (below_at HB.out hg (by omega) KC.out.lt); replace KA := Lib.hid (KA.out.grown hg (by omega)); replace KC := Lib.hid hk; clear hk hg KA)
        | (refine blkLoad rfl (.tmp 11) rfl KC.out rfl ?_)
        | (go_at_call 59; refine (P2.out _).mono ?_; rintro e w7 ⟨⟨A4, c4, l4, rfl⟩, hb7⟩; replace KC := Lib.hid (KC.out.below hb7); replace HB := Lib.hid (below_ext HB.out hb7); have hz7 := hb7.size; clear hb7)
        | (go_at_call 58; refine (lives_any _).mono ?_; rintro e w8 ⟨rfl, hb8⟩; replace HB := Lib.hid (below_ext HB.out hb8); clear hb8))
      go_ret
      exact ⟨ret_b (by simp), HB.out⟩
    · have hne : (v : Int) ≠ rd X (k : Int) := by rw [hx, hv]; intro h; exact hc ((xor_same (a := x) (b := c)).1 (Int.ofNat_inj.1 h))
      have c0 : ((c : Int) == 0) = false := by simp; omega
      have hf2 : f = 5 ∨ f = 6 := by
        rw [hf, hX2]
        exact byte_no h0 hn hla hw hk64 hvw (by rw [← hX2]; exact hne)
      clear hX hX2 hXl hXw hrd hx hv hvw hTl hf hne he hw hr h0 hla hn hc hg hT
      rcases hf2 with rfl | rfl
      all_goals
        go_enter Try.func14, Try.ntmps14
        go_wp2_with (first
          | (go_at_call 56; refine (P1.out _ _ _ (HR.out.below HB.out)).mono ?_; rintro e w1 ⟨rfl, hb1⟩; replace HB := Lib.hid (below_ext HB.out hb1); have hz1 := hb1.size; clear hb1)
          | (have _t := tok0; refine blkAlloc rfl rfl ?_; intro w2 hk hb2 hz2; replace HB := Lib.hid (below_ext HB.out hb2); have KA := Lib.hid hk; have tok1 : True := trivial; clear hk hb2 _t tok0)
          | (refine blkStore rfl (.tmp 9) (.tmp 20) rfl KA.out rfl rfl HX.out ?_; intro w3 hk hg; replace HB := Lib.hid (below_at HB.out hg (by omega) KA.out.lt); replace KA := Lib.hid hk; have hz3 := hg.size; clear hk hg)
          | (refine blkLoad rfl (.tmp 9) rfl KA.out rfl ?_)
          | (have _t := tok1; refine blkAlloc rfl rfl ?_; intro w4 hk hb4 hz4; replace KA := Lib.hid (KA.out.below hb4); replace HB := Lib.hid (below_ext HB.out hb4); have KC := Lib.hid hk; have tok2 : True := trivial; clear hk hb4 _t tok1)
          | (refine blkStore rfl (.tmp 11) (.tmp 25) rfl KC.out rfl rfl HX.out ?_; intro w5 hk hg; replace HB := Lib.hid (below_at HB.out hg (by omega) KC.out.lt); replace KA := Lib.hid (KA.out.grown hg (by omega)); replace KC := Lib.hid hk; have hz5 := hg.size; clear hk hg)
          | (refine rowCell rfl _ (.tmp 31) rfl (KC.out.cell k hk64) rfl agg_u8 ?_)
          | (refine blkSet rfl (.tmp 35) (.tmp 34) rfl KC.out k hk64 rfl _ rfl ?_; intro w6 hk hg; rw [HT.out] at hk; replace HB := Lib.hid (below_at HB.out hg (by omega) KC.out.lt); replace KA := Lib.hid (KA.out.grown hg (by omega)); replace KC := Lib.hid hk; clear hk hg KA)
          | (refine blkLoad rfl (.tmp 11) rfl KC.out rfl ?_)
          | (go_at_call 59; refine (P2.out _).mono ?_; rintro e w7 ⟨⟨A4, c4, l4, rfl⟩, hb7⟩; replace KC := Lib.hid (KC.out.below hb7); replace HB := Lib.hid (below_ext HB.out hb7); have hz7 := hb7.size; clear hb7)
          | (go_at_call 58; refine (lives_any _).mono ?_; rintro e w8 ⟨rfl, hb8⟩; replace HB := Lib.hid (below_ext HB.out hb8); clear hb8))
        go_ret
        exact ⟨ret_b (by simp), HB.out⟩
  · have e1 : (e != 0) = true := by simp [he]
    clear hX hXl hw hr he hq
    go_enter Try.func14, Try.ntmps14
    go_wp2_with (first
      | (go_at_call 56; refine (P1.out _ _ _ (HR.out.below HB.out)).mono ?_; rintro e w1 ⟨rfl, hb1⟩; replace HB := Lib.hid (below_ext HB.out hb1); have hz1 := hb1.size; clear hb1)
      | (have _t := tok0; refine blkAlloc rfl rfl ?_; intro w2 hk hb2 hz2; replace HB := Lib.hid (below_ext HB.out hb2); have KA := Lib.hid hk; have tok1 : True := trivial; clear hk hb2 _t tok0)
      | (refine blkStore rfl (.tmp 9) (.tmp 20) rfl KA.out rfl rfl HX.out ?_; intro w3 hk hg; replace HB := Lib.hid (below_at HB.out hg (by omega) KA.out.lt); replace KA := Lib.hid hk; have hz3 := hg.size; clear hk hg)
      | (go_at_call 58; refine (lives_any _).mono ?_; rintro e w4 ⟨rfl, hb4⟩; replace HB := Lib.hid (below_ext HB.out hb4); clear hb4))
    go_ret
    exact ⟨ret_b (by simp), HB.out⟩
  · have e1 : (e != 0) = true := by simp [he]
    clear hX hXl hw hr he hq
    go_enter Try.func14, Try.ntmps14
    go_wp2_with (first
      | (go_at_call 56; refine (P1.out _ _ _ (HR.out.below HB.out)).mono ?_; rintro e w1 ⟨rfl, hb1⟩; replace HB := Lib.hid (below_ext HB.out hb1); have hz1 := hb1.size; clear hb1)
      | (have _t := tok0; refine blkAlloc rfl rfl ?_; intro w2 hk hb2 hz2; replace HB := Lib.hid (below_ext HB.out hb2); have KA := Lib.hid hk; have tok1 : True := trivial; clear hk hb2 _t tok0)
      | (refine blkStore rfl (.tmp 9) (.tmp 20) rfl KA.out rfl rfl HX.out ?_; intro w3 hk hg; replace HB := Lib.hid (below_at HB.out hg (by omega) KA.out.lt); replace KA := Lib.hid hk; have hz3 := hg.size; clear hk hg)
      | (go_at_call 58; refine (lives_any _).mono ?_; rintro e w4 ⟨rfl, hb4⟩; replace HB := Lib.hid (below_ext HB.out hb4); clear hb4))
    go_ret
    exact ⟨ret_b (by simp), HB.out⟩
end Go.Proofs.Ytdchcggllcgokaa.E
