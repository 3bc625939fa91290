/-
  seal.Newest, ashlarref07.Newest; ashlarref03.Torn: the walks.
-/
import Derived.Test.YtdchcggllcgokaaSeal4
namespace Go.Proofs.Ytdchcggllcgokaa.E
open Go.RowKit Go.Proofs.Ytdchcggllcgokaa.L Go.Proofs.Ytdchcggllcgokaa.U Go.Proofs.Ytdchcggllcgokaa.R Go.Proofs.YtdchcggllcgokaaW.PrintWords
set_option linter.unusedVariables false
set_option linter.unusedSimpArgs false

def news (xs ys : List Int) : Int × Int :=
  if (gots xs).2.2 ≠ 0 ∧ (gots ys).2.2 ≠ 0 then (0, 7) else if (gots xs).2.2 ≠ 0 ∨ ((gots ys).2.2 = 0 ∧ (gots xs).1 < (gots ys).1) then (1, 0) else (0, 0)
/-- a call of Get: number and error under names -/
def GetN (xs : List Int) (n : Nat) (k : Int) : Prop := ∀ w : World, Calls Try.prog 59 #[blk xs] w fun e w' => (∃ A c l, e = .returned (.tuple #[.int .u64 (n : Int), .slice A l c, .int .i64 k])) ∧ Below w.heap.size w w'
def rGetN (xs : List Int) (n : Nat) (k : Int) : Prop := ∀ w : World, Calls Try.prog 60 #[blk xs] w fun e w' => (∃ A c l, e = .returned (.tuple #[.int .u64 (n : Int), .slice A l c, .int .i64 k])) ∧ Below w.heap.size w w'
theorem get_n {xs : List Int} (hl : xs.length = 64) (hw : Wf8 xs) : GetN xs (gots xs).1 (gots xs).2.2 := fun w =>
  (Get_seal xs hl hw w).mono fun _ _ ⟨⟨A, c, h, _⟩, hb⟩ => ⟨⟨A, c, _, h⟩, hb⟩
theorem rget_n {xs : List Int} (hl : xs.length = 64) (hw : Wf8 xs) : rGetN xs (gots xs).1 (gots xs).2.2 := fun w =>
  (rGet_seal xs hl hw w).mono fun _ _ ⟨⟨A, c, h, _⟩, hb⟩ => ⟨⟨A, c, _, h⟩, hb⟩
theorem gots_lt {xs : List Int} (hw : Wf8 xs) : (gots xs).1 < 18446744073709551616 := by
  unfold gots
  split
  · decide
  · split
    · decide
    · exact first_lt hw
set_option maxRecDepth 100000 in
set_option maxHeartbeats 2000000 in
theorem Newest_any (xs ys : List Int) (hx : xs.length = 64) (hwx : Wf8 xs) (hy : ys.length = 64) (hwy : Wf8 ys) (w : World) :
    Calls Try.prog 61 #[blk xs, blk ys] w fun e w' => e = .returned (.tuple #[.int .i64 (news xs ys).1, .int .i64 (news xs ys).2]) ∧ Below w.heap.size w w' := by
  have HB := Lib.hid (Below.refl w.heap.size w)
  have HX := Lib.hid hx
  have HY := Lib.hid hy
  obtain ⟨n, hn⟩ : ∃ n, n = (gots xs).1 := ⟨_, rfl⟩
  obtain ⟨m, hm⟩ : ∃ m, m = (gots ys).1 := ⟨_, rfl⟩
  obtain ⟨e, he⟩ : ∃ e, e = (gots xs).2.2 := ⟨_, rfl⟩
  obtain ⟨f, hf⟩ : ∃ f, f = (gots ys).2.2 := ⟨_, rfl⟩
  have nl : n < 18446744073709551616 := by rw [hn]; exact gots_lt hwx
  have ml : m < 18446744073709551616 := by rw [hm]; exact gots_lt hwy
  have P1 := Lib.hid (show GetN xs n e from by rw [hn, he]; exact get_n hx hwx)
  have P2 := Lib.hid (show GetN ys m f from by rw [hm, hf]; exact get_n hy hwy)
  rcases (by omega : (e ≠ 0 ∧ f ≠ 0) ∨ (e ≠ 0 ∧ f = 0) ∨ (e = 0 ∧ f = 0 ∧ n < m) ∨ (e = 0 ∧ f = 0 ∧ ¬ n < m) ∨ (e = 0 ∧ f ≠ 0)) with ⟨h1, h2⟩ | ⟨h1, h2⟩ | ⟨h1, h2, h3⟩ | ⟨h1, h2, h3⟩ | ⟨h1, h2⟩
  · have HG := Lib.hid (show news xs ys = (0, 7) from if_pos ⟨by rw [← he]; exact h1, by rw [← hf]; exact h2⟩)
    have e1 : (e != 0) = true := by simpa using h1
    have f1 : (f != 0) = true := by simpa using h2
    clear hn hm he hf h1 h2 hx hy hwx hwy
    go_enter Try.func61, Try.ntmps61
    go_wp2_with (first
      | (refine blkBox rfl (.tmp 0) rfl rfl HX.out ?_; intro w1 hk1 hb1 hz1; have K := Lib.hid hk1; replace HB := Lib.hid (below_ext HB.out hb1); clear hk1 hb1)
      | (refine blkBox rfl (.tmp 1) rfl rfl HY.out ?_; intro w2 hk1 hb1 hz2; have K2 := Lib.hid hk1; replace K := Lib.hid (K.out.below hb1); replace HB := Lib.hid (below_ext HB.out hb1); clear hk1 hb1)
      | (refine blkLoad rfl (.tmp 2) rfl K.out rfl ?_)
      | (refine blkLoad rfl (.tmp 3) rfl K2.out rfl ?_)
      | (go_at_call_of 59 (blk xs); refine (P1.out _).mono ?_; rintro e w3 ⟨⟨A3, c3, l3, rfl⟩, hb⟩; replace K := Lib.hid (K.out.below hb); replace K2 := Lib.hid (K2.out.below hb); replace HB := Lib.hid (below_ext HB.out hb); clear hb)
      | (go_at_call_of 59 (blk ys); refine (P2.out _).mono ?_; rintro e w4 ⟨⟨A4, c4, l4, rfl⟩, hb⟩; replace K := Lib.hid (K.out.below hb); replace K2 := Lib.hid (K2.out.below hb); replace HB := Lib.hid (below_ext HB.out hb); clear hb))
    go_ret2
    exact ⟨by rw [HG.out]; rfl, HB.out⟩
  · have HG := Lib.hid (show news xs ys = (1, 0) by rw [news, if_neg (by rw [← hf]; omega), if_pos (.inl (by rw [← he]; exact h1))])
    have e1 : (e != 0) = true := by simpa using h1
    have f1 : (f != 0) = false := by simp [h2]
    have f2 : (f == 0) = true := by simp [h2]
    clear hn hm he hf h1 h2 hx hy hwx hwy
    go_enter Try.func61, Try.ntmps61
    go_wp2_with (first
      | (refine blkBox rfl (.tmp 0) rfl rfl HX.out ?_; intro w1 hk1 hb1 hz1; have K := Lib.hid hk1; replace HB := Lib.hid (below_ext HB.out hb1); clear hk1 hb1)
      | (refine blkBox rfl (.tmp 1) rfl rfl HY.out ?_; intro w2 hk1 hb1 hz2; have K2 := Lib.hid hk1; replace K := Lib.hid (K.out.below hb1); replace HB := Lib.hid (below_ext HB.out hb1); clear hk1 hb1)
      | (refine blkLoad rfl (.tmp 2) rfl K.out rfl ?_)
      | (refine blkLoad rfl (.tmp 3) rfl K2.out rfl ?_)
      | (go_at_call_of 59 (blk xs); refine (P1.out _).mono ?_; rintro e w3 ⟨⟨A3, c3, l3, rfl⟩, hb⟩; replace K := Lib.hid (K.out.below hb); replace K2 := Lib.hid (K2.out.below hb); replace HB := Lib.hid (below_ext HB.out hb); clear hb)
      | (go_at_call_of 59 (blk ys); refine (P2.out _).mono ?_; rintro e w4 ⟨⟨A4, c4, l4, rfl⟩, hb⟩; replace K := Lib.hid (K.out.below hb); replace K2 := Lib.hid (K2.out.below hb); replace HB := Lib.hid (below_ext HB.out hb); clear hb))
    go_ret2
    exact ⟨by rw [HG.out]; rfl, HB.out⟩
  · have HG := Lib.hid (show news xs ys = (1, 0) by rw [news, if_neg (by rw [← hf]; omega), if_pos (.inr ⟨by rw [← hf]; exact h2, by rw [← hn, ← hm]; exact h3⟩)])
    have e1 : (e != 0) = false := by simp [h1]
    have f1 : (f != 0) = false := by simp [h2]
    have f2 : (f == 0) = true := by simp [h2]
    clear hn hm he hf h1 h2 hx hy hwx hwy
    go_enter Try.func61, Try.ntmps61
    go_wp2_with (first
      | (refine blkBox rfl (.tmp 0) rfl rfl HX.out ?_; intro w1 hk1 hb1 hz1; have K := Lib.hid hk1; replace HB := Lib.hid (below_ext HB.out hb1); clear hk1 hb1)
      | (refine blkBox rfl (.tmp 1) rfl rfl HY.out ?_; intro w2 hk1 hb1 hz2; have K2 := Lib.hid hk1; replace K := Lib.hid (K.out.below hb1); replace HB := Lib.hid (below_ext HB.out hb1); clear hk1 hb1)
      | (refine blkLoad rfl (.tmp 2) rfl K.out rfl ?_)
      | (refine blkLoad rfl (.tmp 3) rfl K2.out rfl ?_)
      | (go_at_call_of 59 (blk xs); refine (P1.out _).mono ?_; rintro e w3 ⟨⟨A3, c3, l3, rfl⟩, hb⟩; replace K := Lib.hid (K.out.below hb); replace K2 := Lib.hid (K2.out.below hb); replace HB := Lib.hid (below_ext HB.out hb); clear hb)
      | (go_at_call_of 59 (blk ys); refine (P2.out _).mono ?_; rintro e w4 ⟨⟨A4, c4, l4, rfl⟩, hb⟩; replace K := Lib.hid (K.out.below hb); replace K2 := Lib.hid (K2.out.below hb); replace HB := Lib.hid (below_ext HB.out hb); clear hb))
    go_ret2
    exact ⟨by rw [HG.out]; rfl, HB.out⟩
  · have HG := Lib.hid (show news xs ys = (0, 0) by rw [news, if_neg (by rw [← hf]; omega), if_neg (by rw [← he, ← hf, ← hn, ← hm]; omega)])
    have e1 : (e != 0) = false := by simp [h1]
    have f1 : (f != 0) = false := by simp [h2]
    have f2 : (f == 0) = true := by simp [h2]
    have h4 : m ≤ n := by omega
    clear hn hm he hf h1 h2 hx hy hwx hwy h3
    go_enter Try.func61, Try.ntmps61
    go_wp2_with (first
      | (refine blkBox rfl (.tmp 0) rfl rfl HX.out ?_; intro w1 hk1 hb1 hz1; have K := Lib.hid hk1; replace HB := Lib.hid (below_ext HB.out hb1); clear hk1 hb1)
      | (refine blkBox rfl (.tmp 1) rfl rfl HY.out ?_; intro w2 hk1 hb1 hz2; have K2 := Lib.hid hk1; replace K := Lib.hid (K.out.below hb1); replace HB := Lib.hid (below_ext HB.out hb1); clear hk1 hb1)
      | (refine blkLoad rfl (.tmp 2) rfl K.out rfl ?_)
      | (refine blkLoad rfl (.tmp 3) rfl K2.out rfl ?_)
      | (go_at_call_of 59 (blk xs); refine (P1.out _).mono ?_; rintro e w3 ⟨⟨A3, c3, l3, rfl⟩, hb⟩; replace K := Lib.hid (K.out.below hb); replace K2 := Lib.hid (K2.out.below hb); replace HB := Lib.hid (below_ext HB.out hb); clear hb)
      | (go_at_call_of 59 (blk ys); refine (P2.out _).mono ?_; rintro e w4 ⟨⟨A4, c4, l4, rfl⟩, hb⟩; replace K := Lib.hid (K.out.below hb); replace K2 := Lib.hid (K2.out.below hb); replace HB := Lib.hid (below_ext HB.out hb); clear hb))
    go_ret2
    exact ⟨by rw [HG.out]; rfl, HB.out⟩
  · have HG := Lib.hid (show news xs ys = (0, 0) by rw [news, if_neg (by rw [← he]; omega), if_neg (by rw [← he, ← hf]; omega)])
    have e1 : (e != 0) = false := by simp [h1]
    have f1 : (f != 0) = true := by simpa using h2
    have f2 : (f == 0) = false := by simpa using h2
    clear hn hm he hf h1 h2 hx hy hwx hwy
    go_enter Try.func61, Try.ntmps61
    go_wp2_with (first
      | (refine blkBox rfl (.tmp 0) rfl rfl HX.out ?_; intro w1 hk1 hb1 hz1; have K := Lib.hid hk1; replace HB := Lib.hid (below_ext HB.out hb1); clear hk1 hb1)
      | (refine blkBox rfl (.tmp 1) rfl rfl HY.out ?_; intro w2 hk1 hb1 hz2; have K2 := Lib.hid hk1; replace K := Lib.hid (K.out.below hb1); replace HB := Lib.hid (below_ext HB.out hb1); clear hk1 hb1)
      | (refine blkLoad rfl (.tmp 2) rfl K.out rfl ?_)
      | (refine blkLoad rfl (.tmp 3) rfl K2.out rfl ?_)
      | (go_at_call_of 59 (blk xs); refine (P1.out _).mono ?_; rintro e w3 ⟨⟨A3, c3, l3, rfl⟩, hb⟩; replace K := Lib.hid (K.out.below hb); replace K2 := Lib.hid (K2.out.below hb); replace HB := Lib.hid (below_ext HB.out hb); clear hb)
      | (go_at_call_of 59 (blk ys); refine (P2.out _).mono ?_; rintro e w4 ⟨⟨A4, c4, l4, rfl⟩, hb⟩; replace K := Lib.hid (K.out.below hb); replace K2 := Lib.hid (K2.out.below hb); replace HB := Lib.hid (below_ext HB.out hb); clear hb))
    go_ret2
    exact ⟨by rw [HG.out]; rfl, HB.out⟩
set_option maxRecDepth 100000 in
set_option maxHeartbeats 2000000 in
theorem rNewest_any (xs ys : List Int) (hx : xs.length = 64) (hwx : Wf8 xs) (hy : ys.length = 64) (hwy : Wf8 ys) (w : World) :
    Calls Try.prog 62 #[blk xs, blk ys] w fun e w' => e = .returned (.tuple #[.int .i64 (news xs ys).1, .int .i64 (news xs ys).2]) ∧ Below w.heap.size w w' := by
  have HB := Lib.hid (Below.refl w.heap.size w)
  have HX := Lib.hid hx
  have HY := Lib.hid hy
  obtain ⟨n, hn⟩ : ∃ n, n = (gots xs).1 := ⟨_, rfl⟩
  obtain ⟨m, hm⟩ : ∃ m, m = (gots ys).1 := ⟨_, rfl⟩
  obtain ⟨e, he⟩ : ∃ e, e = (gots xs).2.2 := ⟨_, rfl⟩
  obtain ⟨f, hf⟩ : ∃ f, f = (gots ys).2.2 := ⟨_, rfl⟩
  have nl : n < 18446744073709551616 := by rw [hn]; exact gots_lt hwx
  have ml : m < 18446744073709551616 := by rw [hm]; exact gots_lt hwy
  have P1 := Lib.hid (show rGetN xs n e from by rw [hn, he]; exact rget_n hx hwx)
  have P2 := Lib.hid (show rGetN ys m f from by rw [hm, hf]; exact rget_n hy hwy)
  rcases (by omega : (e ≠ 0 ∧ f ≠ 0) ∨ (e ≠ 0 ∧ f = 0) ∨ (e = 0 ∧ f = 0 ∧ n < m) ∨ (e = 0 ∧ f = 0 ∧ ¬ n < m) ∨ (e = 0 ∧ f ≠ 0)) with ⟨h1, h2⟩ | ⟨h1, h2⟩ | ⟨h1, h2, h3⟩ | ⟨h1, h2, h3⟩ | ⟨h1, h2⟩
  · have HG := Lib.hid (show news xs ys = (0, 7) from if_pos ⟨by rw [← he]; exact h1, by rw [← hf]; exact h2⟩)
    have e1 : (e != 0) = true := by simpa using h1
    have f1 : (f != 0) = true := by simpa using h2
    clear hn hm he hf h1 h2 hx hy hwx hwy
    go_enter Try.func62, Try.ntmps62
    go_wp2_with (first
      | (refine blkBox rfl (.tmp 0) rfl rfl HX.out ?_; intro w1 hk1 hb1 hz1; have K := Lib.hid hk1; replace HB := Lib.hid (below_ext HB.out hb1); clear hk1 hb1)
      | (refine blkBox rfl (.tmp 1) rfl rfl HY.out ?_; intro w2 hk1 hb1 hz2; have K2 := Lib.hid hk1; replace K := Lib.hid (K.out.below hb1); replace HB := Lib.hid (below_ext HB.out hb1); clear hk1 hb1)
      | (refine blkLoad rfl (.tmp 2) rfl K.out rfl ?_)
      | (refine blkLoad rfl (.tmp 3) rfl K2.out rfl ?_)
      | (go_at_call_of 60 (blk xs); refine (P1.out _).mono ?_; rintro e w3 ⟨⟨A3, c3, l3, rfl⟩, hb⟩; replace K := Lib.hid (K.out.below hb); replace K2 := Lib.hid (K2.out.below hb); replace HB := Lib.hid (below_ext HB.out hb); clear hb)
      | (go_at_call_of 60 (blk ys); refine (P2.out _).mono ?_; rintro e w4 ⟨⟨A4, c4, l4, rfl⟩, hb⟩; replace K := Lib.hid (K.out.below hb); replace K2 := Lib.hid (K2.out.below hb); replace HB := Lib.hid (below_ext HB.out hb); clear hb))
    go_ret2
    exact ⟨by rw [HG.out]; rfl, HB.out⟩
  · have HG := Lib.hid (show news xs ys = (1, 0) by rw [news, if_neg (by rw [← hf]; omega), if_pos (.inl (by rw [← he]; exact h1))])
    have e1 : (e != 0) = true := by simpa using h1
    have f1 : (f != 0) = false := by simp [h2]
    have f2 : (f == 0) = true := by simp [h2]
    clear hn hm he hf h1 h2 hx hy hwx hwy
    go_enter Try.func62, Try.ntmps62
    go_wp2_with (first
      | (refine blkBox rfl (.tmp 0) rfl rfl HX.out ?_; intro w1 hk1 hb1 hz1; have K := Lib.hid hk1; replace HB := Lib.hid (below_ext HB.out hb1); clear hk1 hb1)
      | (refine blkBox rfl (.tmp 1) rfl rfl HY.out ?_; intro w2 hk1 hb1 hz2; have K2 := Lib.hid hk1; replace K := Lib.hid (K.out.below hb1); replace HB := Lib.hid (below_ext HB.out hb1); clear hk1 hb1)
      | (refine blkLoad rfl (.tmp 2) rfl K.out rfl ?_)
      | (refine blkLoad rfl (.tmp 3) rfl K2.out rfl ?_)
      | (go_at_call_of 60 (blk xs); refine (P1.out _).mono ?_; rintro e w3 ⟨⟨A3, c3, l3, rfl⟩, hb⟩; replace K := Lib.hid (K.out.below hb); replace K2 := Lib.hid (K2.out.below hb); replace HB := Lib.hid (below_ext HB.out hb); clear hb)
      | (go_at_call_of 60 (blk ys); refine (P2.out _).mono ?_; rintro e w4 ⟨⟨A4, c4, l4, rfl⟩, hb⟩; replace K := Lib.hid (K.out.below hb); replace K2 := Lib.hid (K2.out.below hb); replace HB := Lib.hid (below_ext HB.out hb); clear hb))
    go_ret2
    exact ⟨by rw [HG.out]; rfl, HB.out⟩
  · have HG := Lib.hid (show news xs ys = (1, 0) by rw [news, if_neg (by rw [← hf]; omega), if_pos (.inr ⟨by rw [← hf]; exact h2, by rw [← hn, ← hm]; exact h3⟩)])
    have e1 : (e != 0) = false := by simp [h1]
    have f1 : (f != 0) = false := by simp [h2]
    have f2 : (f == 0) = true := by simp [h2]
    clear hn hm he hf h1 h2 hx hy hwx hwy
    go_enter Try.func62, Try.ntmps62
    go_wp2_with (first
      | (refine blkBox rfl (.tmp 0) rfl rfl HX.out ?_; intro w1 hk1 hb1 hz1; have K := Lib.hid hk1; replace HB := Lib.hid (below_ext HB.out hb1); clear hk1 hb1)
      | (refine blkBox rfl (.tmp 1) rfl rfl HY.out ?_; intro w2 hk1 hb1 hz2; have K2 := Lib.hid hk1; replace K := Lib.hid (K.out.below hb1); replace HB := Lib.hid (below_ext HB.out hb1); clear hk1 hb1)
      | (refine blkLoad rfl (.tmp 2) rfl K.out rfl ?_)
      | (refine blkLoad rfl (.tmp 3) rfl K2.out rfl ?_)
      | (go_at_call_of 60 (blk xs); refine (P1.out _).mono ?_; rintro e w3 ⟨⟨A3, c3, l3, rfl⟩, hb⟩; replace K := Lib.hid (K.out.below hb); replace K2 := Lib.hid (K2.out.below hb); replace HB := Lib.hid (below_ext HB.out hb); clear hb)
      | (go_at_call_of 60 (blk ys); refine (P2.out _).mono ?_; rintro e w4 ⟨⟨A4, c4, l4, rfl⟩, hb⟩; replace K := Lib.hid (K.out.below hb); replace K2 := Lib.hid (K2.out.below hb); replace HB := Lib.hid (below_ext HB.out hb); clear hb))
    go_ret2
    exact ⟨by rw [HG.out]; rfl, HB.out⟩
  · have HG := Lib.hid (show news xs ys = (0, 0) by rw [news, if_neg (by rw [← hf]; omega), if_neg (by rw [← he, ← hf, ← hn, ← hm]; omega)])
    have e1 : (e != 0) = false := by simp [h1]
    have f1 : (f != 0) = false := by simp [h2]
    have f2 : (f == 0) = true := by simp [h2]
    have h4 : m ≤ n := by omega
    clear hn hm he hf h1 h2 hx hy hwx hwy h3
    go_enter Try.func62, Try.ntmps62
    go_wp2_with (first
      | (refine blkBox rfl (.tmp 0) rfl rfl HX.out ?_; intro w1 hk1 hb1 hz1; have K := Lib.hid hk1; replace HB := Lib.hid (below_ext HB.out hb1); clear hk1 hb1)
      | (refine blkBox rfl (.tmp 1) rfl rfl HY.out ?_; intro w2 hk1 hb1 hz2; have K2 := Lib.hid hk1; replace K := Lib.hid (K.out.below hb1); replace HB := Lib.hid (below_ext HB.out hb1); clear hk1 hb1)
      | (refine blkLoad rfl (.tmp 2) rfl K.out rfl ?_)
      | (refine blkLoad rfl (.tmp 3) rfl K2.out rfl ?_)
      | (go_at_call_of 60 (blk xs); refine (P1.out _).mono ?_; rintro e w3 ⟨⟨A3, c3, l3, rfl⟩, hb⟩; replace K := Lib.hid (K.out.below hb); replace K2 := Lib.hid (K2.out.below hb); replace HB := Lib.hid (below_ext HB.out hb); clear hb)
      | (go_at_call_of 60 (blk ys); refine (P2.out _).mono ?_; rintro e w4 ⟨⟨A4, c4, l4, rfl⟩, hb⟩; replace K := Lib.hid (K.out.below hb); replace K2 := Lib.hid (K2.out.below hb); replace HB := Lib.hid (below_ext HB.out hb); clear hb))
    go_ret2
    exact ⟨by rw [HG.out]; rfl, HB.out⟩
  · have HG := Lib.hid (show news xs ys = (0, 0) by rw [news, if_neg (by rw [← he]; omega), if_neg (by rw [← he, ← hf]; omega)])
    have e1 : (e != 0) = false := by simp [h1]
    have f1 : (f != 0) = true := by simpa using h2
    have f2 : (f == 0) = false := by simpa using h2
    clear hn hm he hf h1 h2 hx hy hwx hwy
    go_enter Try.func62, Try.ntmps62
    go_wp2_with (first
      | (refine blkBox rfl (.tmp 0) rfl rfl HX.out ?_; intro w1 hk1 hb1 hz1; have K := Lib.hid hk1; replace HB := Lib.hid (below_ext HB.out hb1); clear hk1 hb1)
      | (refine blkBox rfl (.tmp 1) rfl rfl HY.out ?_; intro w2 hk1 hb1 hz2; have K2 := Lib.hid hk1; replace K := Lib.hid (K.out.below hb1); replace HB := Lib.hid (below_ext HB.out hb1); clear hk1 hb1)
      | (refine blkLoad rfl (.tmp 2) rfl K.out rfl ?_)
      | (refine blkLoad rfl (.tmp 3) rfl K2.out rfl ?_)
      | (go_at_call_of 60 (blk xs); refine (P1.out _).mono ?_; rintro e w3 ⟨⟨A3, c3, l3, rfl⟩, hb⟩; replace K := Lib.hid (K.out.below hb); replace K2 := Lib.hid (K2.out.below hb); replace HB := Lib.hid (below_ext HB.out hb); clear hb)
      | (go_at_call_of 60 (blk ys); refine (P2.out _).mono ?_; rintro e w4 ⟨⟨A4, c4, l4, rfl⟩, hb⟩; replace K := Lib.hid (K.out.below hb); replace K2 := Lib.hid (K2.out.below hb); replace HB := Lib.hid (below_ext HB.out hb); clear hb))
    go_ret2
    exact ⟨by rw [HG.out]; rfl, HB.out⟩
/-- a sector of which only the first n bytes were written -/
def torn (old now : List Int) (n : Int) : List Int := now.take (min n.toNat 64) ++ old.drop (min n.toNat 64)
theorem torn_length {old now : List Int} {n : Int} (ho : old.length = 64) (hn : now.length = 64) : (torn old now n).length = 64 := by
  simp [torn, ho, hn]; omega
theorem torn_wf {old now : List Int} {n : Int} (ho : Wf8 old) (hn : Wf8 now) : Wf8 (torn old now n) := wf_append (wf_take hn _) (wf_drop ho _)
theorem torn_next {old now : List Int} (q : Nat) (hq : q < 64) (ho : old.length = 64) (hn : now.length = 64) : (now.take q ++ old.drop q).set q (rd now (q : Int)) = now.take (q + 1) ++ old.drop (q + 1) := by
  rw [List.set_append_right _ _ (by simp; omega), List.length_take, Nat.min_eq_left (by omega), Nat.sub_self, List.drop_eq_getElem_cons (by omega : q < old.length), List.set_cons_zero, List.take_succ_eq_append_getElem (by omega : q < now.length), List.append_assoc, List.singleton_append, rd, Int.toNat_natCast, List.getD_eq_getElem?_getD, List.getElem?_eq_getElem (by omega : q < now.length), Option.getD_some]
set_option maxRecDepth 100000 in
set_option maxHeartbeats 2000000 in
theorem Torn_any (xs ys : List Int) (hx : xs.length = 64) (hy : ys.length = 64) (n : Int) (hn : -9223372036854775808 ≤ n ∧ n ≤ 9223372036854775807) (w : World) :
    Calls Try.prog 63 #[blk xs, blk ys, .int .i64 n] w fun e w' => e = .returned (blk (torn xs ys n)) ∧ Below w.heap.size w w' := by
  have HB := Lib.hid (Below.refl w.heap.size w)
  have HX := Lib.hid hx
  have HY := Lib.hid hy
  obtain ⟨n1, n2⟩ := hn
  obtain ⟨M, hM⟩ : ∃ M, M = min n.toNat 64 := ⟨_, rfl⟩
  have hM1 : M ≤ 64 := by omega
  have hM2 : ∀ q : Nat, q < M → (q : Int) < 64 ∧ (q : Int) < n := fun q hq => by omega
  have hM3 : M = 64 ∨ (M < 64 ∧ n ≤ (M : Int)) := by omega
  have HT := Lib.hid (show torn xs ys n = ys.take M ++ xs.drop M by rw [torn, hM])
  have HM2 := Lib.hid hM2
  clear hM hM2 hx hy
  go_enter Try.func63, Try.ntmps63
  go_wp2_with (first
    | (refine blkBox rfl (.tmp 0) rfl rfl HX.out ?_; intro w1 hk1 hb1 hz1; have K := Lib.hid hk1; replace HB := Lib.hid (below_ext HB.out hb1); clear hk1 hb1)
    | (refine blkBox rfl (.tmp 1) rfl rfl HY.out ?_; intro w2 hk1 hb1 hz2; have K2 := Lib.hid hk1; replace K := Lib.hid (K.out.below hb1); replace HB := Lib.hid (below_ext HB.out hb1); clear hk1 hb1)
    | (have _t := tokA; refine blkAlloc rfl rfl ?_; intro w4 hk1 hb1 hz4; have K4 := Lib.hid hk1; replace K := Lib.hid (K.out.below hb1); replace K2 := Lib.hid (K2.out.below hb1); replace K3 := Lib.hid (K3.out.below hb1); replace HB := Lib.hid (below_ext HB.out hb1); have HZ := Lib.hid HB.out.size; clear hk1 hb1 _t tokA)
    | (refine blkAlloc rfl rfl ?_; intro w3 hk1 hb1 hz3; have K3 := Lib.hid hk1; replace K := Lib.hid (K.out.below hb1); replace K2 := Lib.hid (K2.out.below hb1); replace HB := Lib.hid (below_ext HB.out hb1); have tokA : True := trivial; clear hk1 hb1)
    | (refine blkLoad rfl (.tmp 3) rfl K.out rfl ?_)
    | (refine blkStore rfl (.tmp 7) (.tmp 9) rfl K4.out rfl rfl HX.out ?_; intro w5 hk hg; replace HB := Lib.hid (below_at HB.out hg (by omega) K4.out.lt); replace K2 := Lib.hid (K2.out.grown hg (by omega)); replace K3 := Lib.hid (K3.out.grown hg (by omega)); replace K4 := Lib.hid hk; clear hk hg K))
  go_loopw [8] (fun i wr => ∃ q : Nat, q ≤ M ∧ i = .int .i64 q ∧ Hid (Blk wr w3.heap.size (ys.take q ++ xs.drop q)) ∧ Hid (Blk wr w1.heap.size ys) ∧ Hid (Blk wr w2.heap.size zeros) ∧ Hid (Below w.heap.size w wr)) (fun i _ => 64 - (intOf i).toNat)
  case atStart => exact ⟨0, by omega, rfl, Lib.hid (by simpa using K4.out), K2, K3, HB⟩
  case round =>
    clear K2 K3 K4 HB
    obtain ⟨q, hq, rfl, K4, K2, K3, HB⟩ := hrel
    by_cases hlt : q < M
    · obtain ⟨l1, l2⟩ := HM2.out q hlt
      have HN := Lib.hid (torn_next q (by omega) HX.out HY.out)
      have q64 : q < 64 := by omega
      go_wp2_with (first
        | (refine rowCell rfl _ (.tmp 21) rfl (K2.out.cell q q64) rfl agg_u8 ?_)
        | (refine blkSet rfl (.tmp 23) (.tmp 22) rfl K4.out q q64 rfl _ rfl ?_; intro w6 hk hg; rw [HN.out] at hk; have B6 := Lib.hid (below_at HB.out hg (by omega) K4.out.lt); have N2 := Lib.hid (K2.out.grown hg (by omega)); have N3 := Lib.hid (K3.out.grown hg (by omega)); have N4 := Lib.hid hk; clear hk hg))
      go_roundw
      case rel => exact ⟨q + 1, by omega, by go_num, N4, N2, N3, B6⟩
      case measure => simp [intOf]; omega
    · obtain rfl : q = M := by omega
      rw [← HT.out] at K4
      have HTl := Lib.hid (torn_length HX.out HY.out : (torn xs ys n).length = 64)
      rcases hM3 with rfl | ⟨h1, h2⟩
      all_goals
        go_wp2_with (first
          | (refine blkLoad rfl (.tmp 7) rfl K4.out rfl ?_)
          | (refine blkStore rfl (.tmp 6) (.tmp 24) rfl K3.out rfl rfl HTl.out ?_; intro w7 hk hg; replace HB := Lib.hid (below_at HB.out hg (by omega) K3.out.lt); replace K3 := Lib.hid hk; clear hk hg))
        exact bodyPost_ret (v := blk (torn xs ys n)) (ret_blk1 rfl _ _ K3.out rfl) rfl ⟨rfl, HB.out⟩
end Go.Proofs.Ytdchcggllcgokaa.E
