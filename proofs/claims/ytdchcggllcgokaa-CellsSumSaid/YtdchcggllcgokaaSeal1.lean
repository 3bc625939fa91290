/-
  seal.Put: the walk.
-/
import Derived.Test.YtdchcggllcgokaaSeal0
namespace Go.Proofs.Ytdchcggllcgokaa.E
open Go.RowKit Go.Proofs.Ytdchcggllcgokaa.L Go.Proofs.Ytdchcggllcgokaa.U Go.Proofs.Ytdchcggllcgokaa.R Go.Proofs.YtdchcggllcgokaaW.PrintWords
set_option linter.unusedVariables false
set_option linter.unusedSimpArgs false

set_option maxRecDepth 100000 in
set_option maxHeartbeats 1000000 in
theorem Put_sealed (n : Nat) (hn : n < 18446744073709551616) (h0 : n ≠ 0) (B : Option Addr) (cap : Nat) (ys : List Int) (hw : Wf8 ys) (hl : ys.length ≤ 44) (w : World) (hr : ReadsInt w .u8 B ys.length ys) :
    Calls Try.prog 56 #[.int .u64 (n : Int), .slice B ys.length cap] w fun e w' => e = .returned (.tuple #[blk (sealed n ys), .int .i64 0]) ∧ Below w.heap.size w w' := by
  have HB := Lib.hid (Below.refl w.heap.size w)
  have HR := Lib.hid hr
  obtain ⟨X, hX⟩ : ∃ X, X = putb n 8 := ⟨_, rfl⟩
  obtain ⟨F, hF⟩ : ∃ F, F = front n ys := ⟨_, rfl⟩
  obtain ⟨s, hs⟩ : ∃ s, s = crcs F := ⟨_, rfl⟩
  obtain ⟨Y, hY⟩ : ∃ Y, Y = putb s 4 := ⟨_, rfl⟩
  obtain ⟨S, hS⟩ : ∃ S, S = sealed n ys := ⟨_, rfl⟩
  obtain ⟨L1, hL1⟩ : ∃ L1, L1 = putb n 8 ++ Z 56 := ⟨_, rfl⟩
  obtain ⟨L2, hL2⟩ : ∃ L2, L2 = front n ys ++ Z 12 := ⟨_, rfl⟩
  obtain ⟨L3, hL3⟩ : ∃ L3, L3 = front n ys ++ (putb s 4 ++ Z 8) := ⟨_, rfl⟩
  have hsl : s < 4294967296 := by rw [hs]; exact crcs_lt _
  have hFl : F.length = 52 := by rw [hF]; exact front_length hl
  have P1 := Lib.hid (put_n (s := 8) hn (by decide) (by rw [puts_ok (by decide) (by decide) (by omega), hX]) : PutN 8 n X 0)
  have P3 := Lib.hid (put_n (s := 4) (by omega) (by decide) (by rw [puts_ok (by decide) (by decide) (by omega), hY]) : PutN 4 s Y 0)
  have P2 : Hid (∀ (A : Option Addr) (cap : Nat) (w : World), ReadsInt w .u8 A 52 F → Calls Try.prog 123 #[.slice A 52 cap] w fun e w' => e = .returned (.int .u32 (s : Int)) ∧ Below w.heap.size w w') := Lib.hid fun A cap w hr => by
    have h := Of_b A cap F (by rw [hF]; exact front_wf n hw) w (by rw [hFl]; exact hr)
    rw [hFl, ← hs] at h
    exact h
  have H1 := Lib.hid (show splice zeros 0 (X.take 8) = L1 by rw [hX, hL1]; exact copy1 n)
  have H2 := Lib.hid (show splice L1 8 (ys.take 44) = L2 by rw [hL1, hL2]; exact copy2 n ys hl)
  have H3 := Lib.hid (show splice L2 52 (Y.take 4) = L3 by rw [hL2, hL3, hY]; exact copy3 n ys hl s)
  have H4 := Lib.hid (show splice L3 56 (X.take 8) = S by rw [hL3, hX, hS, sealed, hs, hF]; exact copy4 n ys hl _)
  have H5 := Lib.hid (show (L2.drop 0).take 52 = F by rw [hL2, hF]; exact front_take n ys _ hl)
  have HS := Lib.hid (show S.length = 64 by rw [hS]; exact sealed_length hl)
  have hn0 : ((n : Int) == 0) = false := by simp; omega
  rw [← hS]
  clear hr hX hF hs hY hS hL1 hL2 hL3 hFl hw h0
  go_enter Try.func56, Try.ntmps56
  go_wp2_with (first
    | (refine blkAlloc rfl rfl ?_; intro w1 hk1 hb1 hz1; have K := Lib.hid hk1; replace HB := Lib.hid (below_ext HB.out hb1); clear hk1 hb1)
    | (go_at_call_of 42 (Value.int .i64 8); refine (P1.out _).mono ?_; rintro e w2 ⟨⟨A1, c1, rfl, o1⟩, hb2⟩; have O1 := Lib.hid o1; replace K := Lib.hid (K.out.below hb2); replace HB := Lib.hid (below_ext HB.out hb2); clear o1 hb2)
    | (refine blkCopy rfl (.tmp 24) (.tmp 25) rfl K.out 0 8 64 rfl O1.out.reads rfl (by decide) ?_; intro w3 hk hg; rw [H1.out] at hk; replace HB := Lib.hid (below_at HB.out hg (Nat.le_refl _) K.out.lt); replace O1 := Lib.hid (Byts.grown O1.out hg hz1); replace K := Lib.hid hk; clear hk hg)
    | (refine blkCopy rfl (.tmp 27) (.tmp 28) rfl K.out 8 44 44 rfl (HR.out.below HB.out) rfl (by decide) ?_; intro w4 hk hg; rw [H2.out] at hk; replace HB := Lib.hid (below_at HB.out hg (Nat.le_refl _) K.out.lt); replace O1 := Lib.hid (Byts.grown O1.out hg hz1); replace K := Lib.hid hk; clear hk hg)
    | (go_at_call 123; refine (P2.out _ _ _ (by have h := K.out.reads 0 52 (by decide); rw [H5.out] at h; exact h)).mono ?_; rintro e w5 ⟨rfl, hb5⟩; replace O1 := Lib.hid (O1.out.below hb5); replace K := Lib.hid (K.out.below hb5); replace HB := Lib.hid (below_ext HB.out hb5); have HZ2 := Lib.hid K.out.lt; clear hb5)
    | (go_at_call 42; refine (P3.out _).mono ?_; rintro e w6 ⟨⟨A2, c2, rfl, o2⟩, hb6⟩; have O2 := Lib.hid o2; replace O1 := Lib.hid (O1.out.below hb6); replace K := Lib.hid (K.out.below hb6); replace HB := Lib.hid (below_ext HB.out hb6); clear o2 hb6)
    | (refine blkCopy rfl (.tmp 37) (.tmp 38) rfl K.out 52 4 4 rfl O2.out.reads rfl (by decide) ?_; intro w7 hk hg; rw [H3.out] at hk; replace HB := Lib.hid (below_at HB.out hg (Nat.le_refl _) K.out.lt); replace O1 := Lib.hid (Byts.grown O1.out hg hz1); clear O2; replace K := Lib.hid hk; clear hk hg)
    | (refine blkCopy rfl (.tmp 40) (.tmp 41) rfl K.out 56 8 8 rfl O1.out.reads rfl (by decide) ?_; intro w8 hk hg; rw [H4.out] at hk; replace HB := Lib.hid (below_at HB.out hg (Nat.le_refl _) K.out.lt); clear O1; replace K := Lib.hid hk; clear hk hg)
    | (refine blkLoad rfl (.tmp 4) rfl K.out rfl ?_)
    | (refine blkStore rfl (.tmp 4) (.tmp 43) rfl K.out rfl rfl HS.out ?_; intro w9 hk hg; replace HB := Lib.hid (below_at HB.out hg (Nat.le_refl _) K.out.lt); replace K := Lib.hid hk; clear hk hg))
  refine bodyPost_ret (v := .tuple #[blk S, .int .i64 0]) (ret_blk rfl _ _ K.out rfl rfl) rfl ⟨rfl, HB.out⟩
theorem Put_none (B : Option Addr) (cap : Nat) (ys : List Int) (w : World) :
    Calls Try.prog 56 #[.int .u64 0, .slice B ys.length cap] w fun e w' => e = .returned (.tuple #[blk zeros, .int .i64 2]) ∧ Below w.heap.size w w' := by
  have HB := Lib.hid (Below.refl w.heap.size w)
  go_enter Try.func56, Try.ntmps56
  go_wp2_with (first
    | (refine blkAlloc rfl rfl ?_; intro w1 hk1 hb1 hz1; have K := Lib.hid hk1; replace HB := Lib.hid (below_ext HB.out hb1); clear hk1 hb1)
    | (refine blkLoad rfl (.tmp 4) rfl K.out rfl ?_)
    | (refine blkStore rfl (.tmp 4) (.tmp 13) rfl K.out rfl rfl zeros_length ?_; intro w9 hk hg; replace HB := Lib.hid (below_at HB.out hg (Nat.le_refl _) K.out.lt); replace K := Lib.hid hk; clear hk hg))
  refine bodyPost_ret (v := .tuple #[blk zeros, .int .i64 2]) (ret_blk rfl _ _ K.out rfl rfl) rfl ⟨rfl, HB.out⟩
theorem Put_long (n : Nat) (hn : n < 18446744073709551616) (h0 : n ≠ 0) (B : Option Addr) (cap : Nat) (ys : List Int) (hl : 44 < ys.length) (w : World) :
    Calls Try.prog 56 #[.int .u64 (n : Int), .slice B ys.length cap] w fun e w' => e = .returned (.tuple #[blk zeros, .int .i64 3]) ∧ Below w.heap.size w w' := by
  have HB := Lib.hid (Below.refl w.heap.size w)
  have hn0 : ((n : Int) == 0) = false := by simp; omega
  go_enter Try.func56, Try.ntmps56
  go_wp2_with (first
    | (refine blkAlloc rfl rfl ?_; intro w1 hk1 hb1 hz1; have K := Lib.hid hk1; replace HB := Lib.hid (below_ext HB.out hb1); clear hk1 hb1)
    | (refine blkLoad rfl (.tmp 4) rfl K.out rfl ?_)
    | (refine blkStore rfl (.tmp 4) (.tmp 18) rfl K.out rfl rfl zeros_length ?_; intro w9 hk hg; replace HB := Lib.hid (below_at HB.out hg (Nat.le_refl _) K.out.lt); replace K := Lib.hid hk; clear hk hg))
  refine bodyPost_ret (v := .tuple #[blk zeros, .int .i64 3]) (ret_blk rfl _ _ K.out rfl rfl) rfl ⟨rfl, HB.out⟩
theorem Put_seal (n : Nat) (hn : n < 18446744073709551616) (B : Option Addr) (cap : Nat) (ys : List Int) (hw : Wf8 ys) (w : World) (hr : ReadsInt w .u8 B ys.length ys) :
    Calls Try.prog 56 #[.int .u64 (n : Int), .slice B ys.length cap] w fun e w' => e = .returned (.tuple #[blk (seals n ys).1, .int .i64 (seals n ys).2]) ∧ Below w.heap.size w w' := by
  by_cases h0 : n = 0
  · subst h0
    rw [seals_nil]
    exact Put_none B cap ys w
  · by_cases hl : 44 < ys.length
    · rw [seals_long h0 hl]
      exact Put_long n hn h0 B cap ys hl w
    · rw [seals_ok h0 (by omega)]
      exact Put_sealed n hn h0 B cap ys hw (by omega) w hr
end Go.Proofs.Ytdchcggllcgokaa.E
