/-
  Sealed sectors: plain definitions and laws; contracts of the callees in their words. seal.Put: the walk. ashlarref07.Put: the walk. slices.Clone at bytes; seal.Get: the walks. seal.Get, ashlarref07.Get: the walks. seal.Newest, ashlarref07.Newest; ashlarref03.Torn: the walks.
-/
import Derived.Test.YtdchcggllcgokaaSpD
import Derived.Test.YtdchcggllcgokaaSpJ
import Derived.Test.YtdchcggllcgokaaSpC
import Derived.WalkSpells
namespace Go.Proofs.Ytdchcggllcgokaa.E
open Go.RowKit Go.Proofs.Ytdchcggllcgokaa.L Go.Proofs.Ytdchcggllcgokaa.U Go.Proofs.Ytdchcggllcgokaa.R Go.Proofs.YtdchcggllcgokaaW.PrintWords
set_option linter.unusedVariables false
set_option linter.unusedSimpArgs false

def Wf8 (xs : List Int) : Prop := ∀ x ∈ xs, (Lit.int .u8 x).wf = true
def crcs (xs : List Int) : Nat := (C.more 0#32 (xs.map fun x => BitVec.ofInt 8 x)).toNat
theorem crcs_lt (xs : List Int) : crcs xs < 4294967296 := (C.more 0#32 _).isLt
theorem by8_back (bs : List (BitVec 8)) : (C.by8 bs).map (fun x => BitVec.ofInt 8 x) = bs := by
  simp only [C.by8, List.map_map]
  conv => rhs; rw [← List.map_id bs]
  apply List.map_congr_left
  intro b _
  simp [BitVec.ofInt_natCast]
theorem crcs_by8 (bs : List (BitVec 8)) : crcs (C.by8 bs) = (C.more 0#32 bs).toNat := by rw [crcs, by8_back]
theorem Of_b (A : Option Addr) (cap : Nat) (xs : List Int) (hw : Wf8 xs) (w : World) (hr : ReadsInt w .u8 A xs.length xs) :
    Calls Try.prog 123 #[.slice A xs.length cap] w fun e w' => e = .returned (.int .u32 (crcs xs : Int)) ∧ Below w.heap.size w w' := by
  obtain ⟨bs, rfl⟩ := C.by8_of xs hw
  rw [crcs_by8]
  rw [C.by8_length] at hr ⊢
  exact C.Of_any A cap bs w hr hr.2.1
theorem rOf_b (A : Option Addr) (cap : Nat) (xs : List Int) (hw : Wf8 xs) (w : World) (hr : ReadsInt w .u8 A xs.length xs) :
    Calls Try.prog 124 #[.slice A xs.length cap] w fun e w' => e = .returned (.int .u32 (crcs xs : Int)) ∧ Below w.heap.size w w' := by
  obtain ⟨bs, rfl⟩ := C.by8_of xs hw
  rw [crcs_by8]
  rw [C.by8_length] at hr ⊢
  exact C.rOf_any A cap bs w hr hr.2.1

theorem Byts.grown {b g : Nat} {W W1 : World} {A : Option Addr} {c : Nat} {ys : List Int} (h : Byts b W A c ys) (hg : W.grownBy W1 (some g)) (hlt : g < b) : Byts b W1 A c ys := by
  refine own_other h hg ?_
  cases hk : Value.ownBlock (.slice A ys.length c) with
  | none => exact .inl rfl
  | some k =>
    refine .inr fun e => ?_
    have := own_base h k hk
    injection e with e
    omega

/-! ### the plain answer -/
def front (n : Nat) (ys : List Int) : List Int := putb n 8 ++ (ys ++ List.replicate (44 - ys.length) 0)
def sealed (n : Nat) (ys : List Int) : List Int := front n ys ++ (putb (crcs (front n ys)) 4 ++ putb n 8)
def seals (n : Nat) (ys : List Int) : List Int × Int := if n = 0 then (zeros, 2) else if 44 < ys.length then (zeros, 3) else (sealed n ys, 0)
theorem front_length {n : Nat} {ys : List Int} (h : ys.length ≤ 44) : (front n ys).length = 52 := by
  simp [front, putb_length]; omega
theorem sealed_length {n : Nat} {ys : List Int} (h : ys.length ≤ 44) : (sealed n ys).length = 64 := by
  simp [sealed, front_length h, putb_length]
theorem putb_wf (n k : Nat) : Wf8 (putb n k) := fun x hx => by
  simp only [putb, List.mem_map, List.mem_range] at hx
  obtain ⟨i, hi, rfl⟩ := hx
  have h : byt n i < 256 := Nat.mod_lt _ (by decide)
  exact WalkArith.wf_u8 (by omega)
theorem zeros_wf (k : Nat) : Wf8 (List.replicate k 0) := fun x hx => by
  rw [List.eq_of_mem_replicate hx]; decide
theorem front_wf (n : Nat) {ys : List Int} (h : Wf8 ys) : Wf8 (front n ys) := wf_append (putb_wf _ _) (wf_append h (zeros_wf _))
theorem sealed_wf (n : Nat) {ys : List Int} (h : Wf8 ys) : Wf8 (sealed n ys) := wf_append (front_wf n h) (wf_append (putb_wf _ _) (putb_wf _ _))
theorem seals_length (n : Nat) (ys : List Int) : (seals n ys).1.length = 64 := by
  unfold seals
  split
  · exact zeros_length
  · split
    · exact zeros_length
    · exact sealed_length (by omega)
theorem seals_wf (n : Nat) {ys : List Int} (h : Wf8 ys) : Wf8 (seals n ys).1 := by
  unfold seals
  split
  · exact zeros_wf _
  · split
    · exact zeros_wf _
    · exact sealed_wf n h
theorem seals_nil {ys : List Int} : seals 0 ys = (zeros, 2) := if_pos rfl
theorem seals_long {n : Nat} {ys : List Int} (h0 : n ≠ 0) (h : 44 < ys.length) : seals n ys = (zeros, 3) := by rw [seals, if_neg h0, if_pos h]
theorem seals_ok {n : Nat} {ys : List Int} (h0 : n ≠ 0) (h : ys.length ≤ 44) : seals n ys = (sealed n ys, 0) := by rw [seals, if_neg h0, if_neg (by omega)]

/-! ### the four copies -/
theorem splice_mid {α : Type} (a b c d : List α) (h : d.length = b.length) : splice (a ++ (b ++ c)) a.length d = a ++ (d ++ c) := by
  unfold splice
  rw [List.take_left, List.drop_append, List.drop_of_length_le (by omega), List.nil_append, show a.length + d.length - a.length = b.length by omega, List.drop_left]
def Z (k : Nat) : List Int := List.replicate k 0
theorem Z_add (a b : Nat) : Z (a + b) = Z a ++ Z b := by simp [Z, List.replicate_append_replicate]
theorem Z_length (k : Nat) : (Z k).length = k := by simp [Z]
theorem copy1 (n : Nat) : splice zeros 0 ((putb n 8).take 8) = putb n 8 ++ Z 56 := by
  rw [List.take_of_length_le (by rw [putb_length]; omega)]
  exact splice_mid [] (Z 8) (Z 56) (putb n 8) (by rw [putb_length, Z_length])
theorem copy2 (n : Nat) (ys : List Int) (h : ys.length ≤ 44) : splice (putb n 8 ++ Z 56) 8 (ys.take 44) = front n ys ++ Z 12 := by
  rw [List.take_of_length_le h]
  have h2 := splice_mid (putb n 8) (Z ys.length) (Z (44 - ys.length) ++ Z 12) ys (by rw [Z_length])
  rw [putb_length, ← Z_add, ← Z_add, show ys.length + (44 - ys.length + 12) = 56 by omega] at h2
  rw [h2, Z_add, front]
  simp [Z]
theorem copy3 (n : Nat) (ys : List Int) (h : ys.length ≤ 44) (s : Nat) : splice (front n ys ++ Z 12) 52 ((putb s 4).take 4) = front n ys ++ (putb s 4 ++ Z 8) := by
  rw [List.take_of_length_le (by rw [putb_length]; omega)]
  have h2 := splice_mid (front n ys) (Z 4) (Z 8) (putb s 4) (by rw [putb_length, Z_length])
  rw [front_length h, ← Z_add] at h2
  exact h2
theorem copy4 (n : Nat) (ys : List Int) (h : ys.length ≤ 44) (s : Nat) : splice (front n ys ++ (putb s 4 ++ Z 8)) 56 ((putb n 8).take 8) = front n ys ++ (putb s 4 ++ putb n 8) := by
  rw [List.take_of_length_le (by rw [putb_length]; omega)]
  have h2 := splice_mid (front n ys ++ putb s 4) (Z 8) [] (putb n 8) (by rw [putb_length, Z_length])
  rw [List.length_append, front_length h, putb_length, List.append_nil, List.append_nil, List.append_assoc, List.append_assoc] at h2
  exact h2
theorem front_take (n : Nat) (ys zs : List Int) (h : ys.length ≤ 44) : ((front n ys ++ zs).drop 0).take 52 = front n ys := by
  rw [List.drop_zero]
  have h2 := List.take_left (l₁ := front n ys) (l₂ := zs)
  rwa [front_length h] at h2
end Go.Proofs.Ytdchcggllcgokaa.E

namespace Go.Proofs.Ytdchcggllcgokaa.E
open Go.RowKit Go.Proofs.Ytdchcggllcgokaa.L Go.Proofs.Ytdchcggllcgokaa.U Go.Proofs.Ytdchcggllcgokaa.R Go.Proofs.YtdchcggllcgokaaW.PrintWords
set_option linter.unusedVariables false
set_option linter.unusedSimpArgs false

set_option maxRecDepth 100000 in
set_option maxHeartbeats 1000000 in
theorem Put_sealed (n : Nat) (hn : n < 18446744073709551616) (h0 : n ≠ 0) (B : Option Addr) (cap : Nat) (ys : List Int) (hw : Wf8 ys) (hl : ys.length ≤ 44) (w : World) (hr : ReadsInt w .u8 B ys.length ys) :
    Calls Try.prog 56 #[.int .u64 (n : Int), .slice B ys.length cap] w fun e w' => e = .returned (.tuple #[blk (sealed n ys), .int .i64 0]) ∧ Below w.heap.size w w' := by
  have HB := Lib.hid (Below.refl w.heap.size w)
  have HR := Lib.hid hr
  obtain ⟨X, hX⟩ : ∃ X, X = putb n 8 := ⟨_, rfl⟩
  obtain ⟨F, hF⟩ : ∃ F, F = front n ys := ⟨_, rfl⟩
  obtain ⟨s, hs⟩ : ∃ s, s = crcs F := ⟨_, rfl⟩
  obtain ⟨Y, hY⟩ : ∃ Y, Y = putb s 4 := ⟨_, rfl⟩
  obtain ⟨S, hS⟩ : ∃ S, S = sealed n ys := ⟨_, rfl⟩
  obtain ⟨L1, hL1⟩ : ∃ L1, L1 = putb n 8 ++ Z 56 := ⟨_, rfl⟩
  obtain ⟨L2, hL2⟩ : ∃ L2, L2 = front n ys ++ Z 12 := ⟨_, rfl⟩
  obtain ⟨L3, hL3⟩ : ∃ L3, L3 = front n ys ++ (putb s 4 ++ Z 8) := ⟨_, rfl⟩
  have hsl : s < 4294967296 := by rw [hs]; exact crcs_lt _
  have hFl : F.length = 52 := by rw [hF]; exact front_length hl
  have P1 := Lib.hid (put_n (s := 8) hn (by decide) (by rw [puts_ok (by decide) (by decide) (by omega), hX]) : PutN 8 n X 0)
  have P3 := Lib.hid (put_n (s := 4) (by omega) (by decide) (by rw [puts_ok (by decide) (by decide) (by omega), hY]) : PutN 4 s Y 0)
  have P2 : Hid (∀ (A : Option Addr) (cap : Nat) (w : World), ReadsInt w .u8 A 52 F → Calls Try.prog 123 #[.slice A 52 cap] w fun e w' => e = .returned (.int .u32 (s : Int)) ∧ Below w.heap.size w w') := Lib.hid fun A cap w hr => by
    have h := Of_b A cap F (by rw [hF]; exact front_wf n hw) w (by rw [hFl]; exact hr)
    rw [hFl, ← hs] at h
    exact h
  have H1 := Lib.hid (show splice zeros 0 (X.take 8) = L1 by rw [hX, hL1]; exact copy1 n)
  have H2 := Lib.hid (show splice L1 8 (ys.take 44) = L2 by rw [hL1, hL2]; exact copy2 n ys hl)
  have H3 := Lib.hid (show splice L2 52 (Y.take 4) = L3 by rw [hL2, hL3, hY]; exact copy3 n ys hl s)
  have H4 := Lib.hid (show splice L3 56 (X.take 8) = S by rw [hL3, hX, hS, sealed, hs, hF]; exact copy4 n ys hl _)
  have H5 := Lib.hid (show (L2.drop 0).take 52 = F by rw [hL2, hF]; exact front_take n ys _ hl)
  have HS := Lib.hid (show S.length = 64 by rw [hS]; exact sealed_length hl)
  have hn0 : ((n : Int) == 0) = false := by simp; omega
  rw [← hS]
  clear hr hX hF hs hY hS hL1 hL2 hL3 hFl hw h0
  go_enter Try.func56, Try.ntmps56
  go_wp2_with (first
    | (refine blkAlloc rfl rfl ?_; intro w1 hk1 hb1 hz1; have K := Lib.hid hk1; replace HB := Lib.hid (below_ext HB.out hb1); clear hk1 hb1)
    | (go_at_call_of 42 (Value.int .i64 8); refine (P1.out _).mono ?_; rintro e w2 ⟨⟨A1, c1, rfl, o1⟩, hb2⟩; have O1 := Lib.hid o1; replace K := Lib.hid (K.out.below hb2); replace HB := Lib.hid (below_ext HB.out hb2); clear o1 hb2)
    | (refine blkCopy rfl (.tmp 24) (.tmp 25) rfl K.out 0 8 64 rfl O1.out.reads rfl (by decide) ?_; intro w3 hk hg; rw [H1.out] at hk; replace HB := Lib.hid (below_at HB.out hg (Nat.le_refl _) K.out.lt); replace O1 := Lib.hid (Byts.grown O1.out hg hz1); replace K := Lib.hid hk; clear hk hg)
    | (refine blkCopy rfl (.tmp 27) (.tmp 28) rfl K.out 8 44 44 rfl (HR.out.below HB.out) rfl (by decide) ?_; intro w4 hk hg; rw [H2.out] at hk; replace HB := Lib.hid (below_at HB.out hg (Nat.le_refl _) K.out.lt); replace O1 := Lib.hid (Byts.grown O1.out hg hz1); replace K := Lib.hid hk; clear hk hg)
    | (go_at_call 123; refine (P2.out _ _ _ (by have h := K.out.reads 0 52 (by decide); rw [H5.out] at h; exact h)).mono ?_; rintro e w5 ⟨rfl, hb5⟩; replace O1 := Lib.hid (O1.out.below hb5); replace K := Lib.hid (K.out.below hb5); replace HB := Lib.hid (below_ext HB.out hb5); have HZ2 := Lib.hid K.out.lt; clear hb5)
    | (go_at_call 42; refine (P3.out _).mono ?_; rintro e w6 ⟨⟨A2, c2, rfl, o2⟩, hb6⟩; have O2 := Lib.hid o2; replace O1 := Lib.hid (O1.out.below hb6); replace K := Lib.hid (K.out.below hb6); replace HB := Lib.hid (below_ext HB.out hb6); clear o2 hb6)
    | (refine blkCopy rfl (.tmp 37) (.tmp 38) rfl K.out 52 4 4 rfl O2.out.reads rfl (by decide) ?_; intro w7 hk hg; rw [H3.out] at hk; replace HB := Lib.hid (below_at HB.out hg (Nat.le_refl _) K.out.lt); replace O1 := Lib.hid (Byts.grown O1.out hg hz1); clear O2; replace K := Lib.hid hk; clear hk hg)
    | (refine blkCopy rfl (.tmp 40) (.tmp 41) rfl K.out 56 8 8 rfl O1.out.reads rfl (by decide) ?_; intro w8 hk hg; rw [H4.out] at hk; replace HB := Lib.hid (below_at HB.out hg (Nat.le_refl _) K.out.lt); clear O1; replace K := Lib.hid hk; clear hk hg)
    | (refine blkLoad rfl (.tmp 4) rfl K.out rfl ?_)
    | (refine blkStore rfl (.tmp 4) (.tmp 43) rfl K.out rfl rfl HS.out ?_; intro w9 hk hg; replace HB := Lib.hid (below_at HB.out hg (Nat.le_refl _) K.out.lt); replace K := Lib.hid hk; clear hk hg))
  refine bodyPost_ret (v := .tuple #[blk S, .int .i64 0]) (ret_blk rfl _ _ K.out rfl rfl) rfl ⟨rfl, HB.out⟩
theorem Put_none (B : Option Addr) (cap : Nat) (ys : List Int) (w : World) :
    Calls Try.prog 56 #[.int .u64 0, .slice B ys.length cap] w fun e w' => e = .returned (.tuple #[blk zeros, .int .i64 2]) ∧ Below w.heap.size w w' := by
  have HB := Lib.hid (Below.refl w.heap.size w)
  go_enter Try.func56, Try.ntmps56
  go_wp2_with (first
    | (refine blkAlloc rfl rfl ?_; intro w1 hk1 hb1 hz1; have K := Lib.hid hk1; replace HB := Lib.hid (below_ext HB.out hb1); clear hk1 hb1)
    | (refine blkLoad rfl (.tmp 4) rfl K.out rfl ?_)
    | (refine blkStore rfl (.tmp 4) (.tmp 13) rfl K.out rfl rfl zeros_length ?_; intro w9 hk hg; replace HB := Lib.hid (below_at HB.out hg (Nat.le_refl _) K.out.lt); replace K := Lib.hid hk; clear hk hg))
  refine bodyPost_ret (v := .tuple #[blk zeros, .int .i64 2]) (ret_blk rfl _ _ K.out rfl rfl) rfl ⟨rfl, HB.out⟩
theorem Put_long (n : Nat) (hn : n < 18446744073709551616) (h0 : n ≠ 0) (B : Option Addr) (cap : Nat) (ys : List Int) (hl : 44 < ys.length) (w : World) :
    Calls Try.prog 56 #[.int .u64 (n : Int), .slice B ys.length cap] w fun e w' => e = .returned (.tuple #[blk zeros, .int .i64 3]) ∧ Below w.heap.size w w' := by
  have HB := Lib.hid (Below.refl w.heap.size w)
  have hn0 : ((n : Int) == 0) = false := by simp; omega
  go_enter Try.func56, Try.ntmps56
  go_wp2_with (first
    | (refine blkAlloc rfl rfl ?_; intro w1 hk1 hb1 hz1; have K := Lib.hid hk1; replace HB := Lib.hid (below_ext HB.out hb1); clear hk1 hb1)
    | (refine blkLoad rfl (.tmp 4) rfl K.out rfl ?_)
    | (refine blkStore rfl (.tmp 4) (.tmp 18) rfl K.out rfl rfl zeros_length ?_; intro w9 hk hg; replace HB := Lib.hid (below_at HB.out hg (Nat.le_refl _) K.out.lt); replace K := Lib.hid hk; clear hk hg))
  refine bodyPost_ret (v := .tuple #[blk zeros, .int .i64 3]) (ret_blk rfl _ _ K.out rfl rfl) rfl ⟨rfl, HB.out⟩
theorem Put_seal (n : Nat) (hn : n < 18446744073709551616) (B : Option Addr) (cap : Nat) (ys : List Int) (hw : Wf8 ys) (w : World) (hr : ReadsInt w .u8 B ys.length ys) :
    Calls Try.prog 56 #[.int .u64 (n : Int), .slice B ys.length cap] w fun e w' => e = .returned (.tuple #[blk (seals n ys).1, .int .i64 (seals n ys).2]) ∧ Below w.heap.size w w' := by
  by_cases h0 : n = 0
  · subst h0
    rw [seals_nil]
    exact Put_none B cap ys w
  · by_cases hl : 44 < ys.length
    · rw [seals_long h0 hl]
      exact Put_long n hn h0 B cap ys hl w
    · rw [seals_ok h0 (by omega)]
      exact Put_sealed n hn h0 B cap ys hw (by omega) w hr
end Go.Proofs.Ytdchcggllcgokaa.E

namespace Go.Proofs.Ytdchcggllcgokaa.E
open Go.RowKit Go.Proofs.Ytdchcggllcgokaa.L Go.Proofs.Ytdchcggllcgokaa.U Go.Proofs.Ytdchcggllcgokaa.R Go.Proofs.YtdchcggllcgokaaW.PrintWords
set_option linter.unusedVariables false
set_option linter.unusedSimpArgs false

theorem info_u8 : (Try.prog.info? 5).map (fun i => (i.zero, i.size, i.bytes)) = some (some (.int .u8 0), 1, 1) := by kernel_rfl
def rPutN (s : Nat) (n : Nat) (X : List Int) (k : Int) : Prop := ∀ w : World, Calls Try.prog 43 #[.int .u64 (n : Int), .int .i64 (s : Int)] w fun e w' => (∃ A c, e = .returned (.tuple #[.slice A X.length c, .int .i64 k]) ∧ Byts w.heap.size w' A c X) ∧ Below w.heap.size w w'
theorem rput_n {n s : Nat} {X : List Int} {k : Int} (hn : n < 18446744073709551616) (hs : s ≤ 8) (h : puts n s = (X, k)) : rPutN s n X k := fun w => by
  have h2 := rPut_all n hn s (by omega) w
  simp only [PutP, h] at h2
  exact h2
theorem pad_next (X ys : List Int) (q : Nat) : (X ++ (ys ++ Z q)) ++ [0] = X ++ (ys ++ Z (q + 1)) := by
  rw [Z_add]; simp [Z]
theorem pad_end (n : Nat) (ys : List Int) : putb n 8 ++ (ys ++ Z (44 - ys.length)) = front n ys := rfl
theorem lay_next (S : List Int) (q : Nat) (h : q < S.length) (hS : S.length = 64) : (S.take q ++ Z (64 - q)).set q (rd S (q : Int)) = S.take (q + 1) ++ Z (64 - (q + 1)) := by
  rw [List.set_append_right _ _ (by simp; omega), List.length_take, Nat.min_eq_left (by omega), Nat.sub_self]
  obtain ⟨d, hd⟩ : ∃ d, 64 - q = d + 1 := ⟨64 - q - 1, by omega⟩
  rw [Z, hd, List.replicate_succ, List.set_cons_zero, List.take_succ_eq_append_getElem h, show 64 - (q + 1) = d by omega, List.append_assoc, List.singleton_append, rd, Int.toNat_natCast, List.getD_eq_getElem?_getD, List.getElem?_eq_getElem h, Option.getD_some, Z]
theorem lay_end (S : List Int) (hS : S.length = 64) : S.take 64 ++ Z (64 - 64) = S := by
  rw [List.take_of_length_le (by omega)]; simp [Z]
set_option maxRecDepth 100000 in
set_option maxHeartbeats 2000000 in
theorem rPut_sealed (n : Nat) (hn : n < 18446744073709551616) (h0 : n ≠ 0) (B : Option Addr) (cap : Nat) (ys : List Int) (hw : Wf8 ys) (hl : ys.length ≤ 44) (w : World) (hr : ReadsInt w .u8 B ys.length ys) :
    Calls Try.prog 57 #[.int .u64 (n : Int), .slice B ys.length cap] w fun e w' => e = .returned (.tuple #[blk (sealed n ys), .int .i64 0]) ∧ Below w.heap.size w w' := by
  have HB := Lib.hid (Below.refl w.heap.size w)
  have HR := Lib.hid hr
  obtain ⟨X, hX⟩ : ∃ X, X = putb n 8 := ⟨_, rfl⟩
  obtain ⟨F, hF⟩ : ∃ F, F = front n ys := ⟨_, rfl⟩
  obtain ⟨s, hs⟩ : ∃ s, s = crcs F := ⟨_, rfl⟩
  obtain ⟨Y, hY⟩ : ∃ Y, Y = putb s 4 := ⟨_, rfl⟩
  obtain ⟨S, hS⟩ : ∃ S, S = sealed n ys := ⟨_, rfl⟩
  have hsl : s < 4294967296 := by rw [hs]; exact crcs_lt _
  have hFl : F.length = 52 := by rw [hF]; exact front_length hl
  have hXl : X.length = 8 := by rw [hX, putb_length]
  have hYl : Y.length = 4 := by rw [hY, putb_length]
  have P1 := Lib.hid (rput_n (s := 8) hn (by decide) (by rw [puts_ok (by decide) (by decide) (by omega), hX]) : rPutN 8 n X 0)
  have P3 := Lib.hid (rput_n (s := 4) (by omega) (by decide) (by rw [puts_ok (by decide) (by decide) (by omega), hY]) : rPutN 4 s Y 0)
  have P2 : Hid (∀ (A : Option Addr) (cap : Nat) (w : World), ReadsInt w .u8 A F.length F → Calls Try.prog 124 #[.slice A F.length cap] w fun e w' => e = .returned (.int .u32 (s : Int)) ∧ Below w.heap.size w w') := Lib.hid fun A cap w hr => by
    have h := rOf_b A cap F (by rw [hF]; exact front_wf n hw) w hr
    rw [← hs] at h
    exact h
  have HX8 := Lib.hid (show X.length ≤ 140737488355328 by omega)
  have HL5 := Lib.hid (show (X.length + ys.length) * 1 ≤ 140737488355328 by omega)
  have HL7 := Lib.hid (show (F.length + Y.length) * 1 ≤ 140737488355328 by omega)
  have HL8 := Lib.hid (show ((F ++ Y).length + X.length) * 1 ≤ 140737488355328 by rw [List.length_append]; omega)
  have HXl := Lib.hid hXl
  have HFp := Lib.hid (show X ++ (ys ++ Z (44 - ys.length)) = F by rw [hX, hF]; exact pad_end n ys)
  have HFl := Lib.hid hFl
  have HS9 := Lib.hid (show F ++ Y ++ X = S by rw [hS, sealed, ← hF, ← hs, ← hY, ← hX, List.append_assoc])
  have HS := Lib.hid (show S.length = 64 by rw [hS]; exact sealed_length hl)
  have hn0 : ((n : Int) == 0) = false := by simp; omega
  rw [← hS]
  clear hr hX hF hs hY hS hFl hXl hYl hw h0
  go_enter Try.func57, Try.ntmps57
  go_wp2_with (first
    | (refine blkAlloc rfl rfl ?_; intro w1 hk1 hb1 hz1; have K := Lib.hid hk1; replace HB := Lib.hid (below_ext HB.out hb1); clear hk1 hb1)
    | (go_at_call_of 43 (Value.int .i64 8); refine (P1.out _).mono ?_; rintro e w2 ⟨⟨A1, c1, rfl, o1⟩, hb2⟩; have O1 := Lib.hid o1; replace K := Lib.hid (K.out.below hb2); replace HB := Lib.hid (below_ext HB.out hb2); clear o1 hb2)
    | (go_at_call 41; refine (copy_b A1 c1 X _ O1.out.reads HX8.out).mono ?_; rintro e w3 ⟨⟨A2, c2, rfl, o2⟩, hb3⟩; have O2 := Lib.hid o2; have B2 := Lib.hid hb3; clear o2 hb3)
    | (at_builtin; refine print_append_row (w0 := w2) w2.heap.size rfl (.tmp 27) (.tmp 28) 22 5 .u8 1 rfl Try.underlying22 info_u8 (by decide) _ X ys B ys.length cap rfl rfl O2.out (HR.out.below (below_ext HB.out B2.out)) B2.out B2.out.size HL5.out ?_; intro v4 w4 ho4 hb4 hg4 hat4; have O4 := Lib.hid ho4; have B4 := Lib.hid hb4; clear ho4 hb4 hg4 hat4 O2 B2))
  go_loopw [8] (fun v wr => ∃ q : Nat, q ≤ 44 - ys.length ∧ Hid (∃ A c, v = .slice A (8 + ys.length + q) c) ∧ Hid (wr.ownsRow w2.heap.size 5 1 v (X ++ (ys ++ Z q)).length (nums .u8 (X ++ (ys ++ Z q)))) ∧ Hid (Below w2.heap.size w2 wr)) (fun v _ => 52 - (match v with | .slice _ n _ => n | _ => 0))
  case atStart =>
    refine ⟨0, Nat.zero_le _, Lib.hid ?_, Lib.hid (by simpa [Z] using O4.out), B4⟩
    obtain ⟨A, c, h⟩ := own_slice O4.out
    exact ⟨A, c, by rw [h, List.length_append, HXl.out]; rfl⟩
  case round =>
    obtain ⟨q, hq, HV, HO, HC⟩ := hrel
    obtain ⟨A4, c4, rfl⟩ := HV.out
    by_cases hlt : q < 44 - ys.length
    · have HX := Lib.hid (pad_next X ys q)
      have HL6 := Lib.hid (show ((X ++ (ys ++ Z q)).length + 1) * 1 ≤ 140737488355328 by rw [List.length_append, List.length_append, Z_length, HXl.out]; omega)
      have hlt2 : 8 + ys.length + q < 52 := by omega
      go_wp2_with (first
        | (at_builtin; refine print_append_num (w0 := w2) w2.heap.size rfl (.tmp 33) (.tmp 34) 22 5 .u8 1 rfl Try.underlying22 info_u8 (by decide) _ (X ++ (ys ++ Z q)) 0 rfl rfl HO.out HC.out HC.out.size HL6.out ?_; intro v5 w5 ho5 hb5 hg5 hat5; rw [HX.out] at ho5; have B5 := Lib.hid hb5; have O5 := Lib.hid ho5; clear ho5 hb5 hg5 hat5))
      go_roundw
      case rel =>
        refine ⟨q + 1, by omega, Lib.hid ?_, O5, B5⟩
        obtain ⟨A, c, h⟩ := own_slice O5.out
        exact ⟨A, c, by rw [h, List.length_append, List.length_append, Z_length, HXl.out]; congr 1; omega⟩
      case measure =>
        obtain ⟨A, c, h⟩ := own_slice O5.out
        rw [h, List.length_append, List.length_append, Z_length, HXl.out]
        simp only
        omega
    · have hq2 : q = 44 - ys.length := by omega
      have HQ := Lib.hid hq2
      rw [show X ++ (ys ++ Z q) = F by rw [hq2]; exact HFp.out] at HO
      have hlen : 8 + ys.length + q = F.length := by rw [HFl.out]; omega
      have hge : ¬ 8 + ys.length + q < 52 := by omega
      have R5 := Lib.hid (own_reads' (by rw [hlen] at HO; exact HO.out) : ReadsInt wr .u8 A4 F.length F)
      replace HO : Hid (wr.ownsRow w2.heap.size 5 1 (.slice A4 F.length c4) F.length (nums .u8 F)) := Lib.hid (by rw [hlen] at HO; exact HO.out)
      rw [hlen]
      have hge2 : ¬ F.length < 52 := by rw [HFl.out]; decide
      clear hlen hge hq2 hlt hq HV HQ
      go_wp2_with (first
        | (go_at_call 124; refine (P2.out _ _ _ R5.out).mono ?_; rintro e w6 ⟨rfl, hb6⟩; replace HO := Lib.hid (pw_own_below HO.out hb6); replace HC := Lib.hid (below_ext HC.out hb6); clear hb6)
        | (go_at_call 43; refine (P3.out _).mono ?_; rintro e w7 ⟨⟨A2, c2, rfl, o2⟩, hb7⟩; have O2 := Lib.hid o2; replace HO := Lib.hid (pw_own_below HO.out hb7); replace HC := Lib.hid (below_ext HC.out hb7); have tok1 : True := trivial; clear o2 hb7)
        | (at_builtin; have _t := tok1; refine print_append_row (w0 := w2) w2.heap.size rfl (.tmp 43) (.tmp 44) 22 5 .u8 1 rfl Try.underlying22 info_u8 (by decide) _ F Y A2 Y.length c2 rfl rfl HO.out O2.out.reads HC.out HC.out.size HL7.out ?_; intro v8 w8 ho8 hb8 hg8 hat8; have O8 := Lib.hid ho8; replace HC := Lib.hid hb8; have tok2 : True := trivial; clear ho8 hb8 hg8 hat8 HO O2 tok1 _t)
        | (at_builtin; have _t := tok2; refine print_append_row (w0 := w2) w2.heap.size rfl (.tmp 46) (.tmp 47) 22 5 .u8 1 rfl Try.underlying22 info_u8 (by decide) _ (F ++ Y) X A1 X.length c1 rfl rfl O8.out (O1.out.reads.below HC.out) HC.out HC.out.size HL8.out ?_; intro v9 w9 ho9 hb9 hg9 hat9; rw [HS9.out] at ho9; have O9 := Lib.hid ho9; replace HC := Lib.hid hb9; clear ho9 hb9 hg9 hat9 O8 tok2 _t)
        | (refine blkAlloc rfl rfl ?_; intro w10 hk1 hb1 hz10; have K2 := Lib.hid hk1; have HD := Lib.hid hb1; clear hk1 hb1))
      obtain ⟨A9, c9, he9, hr9⟩ := own_reads O9.out
      have R9 := Lib.hid hr9
      subst he9
      clear hr9 O9
      go_loopw [12] (fun i wr => ∃ q : Nat, q ≤ 64 ∧ i = .int .i64 q ∧ Hid (Blk wr w9.heap.size (S.take q ++ Z (64 - q))) ∧ Hid (Below w9.heap.size w9 wr)) (fun i _ => 64 - (intOf i).toNat)
      case atStart => exact ⟨0, by omega, rfl, Lib.hid (by simpa [Z, zeros] using K2.out), HD⟩
      case round =>
        clear HD K2
        obtain ⟨q, hq, rfl, KK, HD⟩ := hrel
        by_cases hlt : q < 64
        · have HN := Lib.hid (lay_next S q (by rw [HS.out]; exact hlt) HS.out)
          obtain ⟨ad, rfl, cx⟩ := (R9.out.below HD.out).at_ (q : Int) (by omega) (by rw [HS.out]; omega)
          rw [Int.toNat_natCast] at cx
          have hi1 : (q : Int) < (S.length : Int) := by rw [HS.out]; omega
          have hq64 : q < 64 := hlt
          go_wp2_with (first
            | (refine blkSet rfl (.tmp 58) (.tmp 57) rfl KK.out q hq64 rfl _ rfl ?_; intro w11 hk hg; rw [HN.out] at hk; have D11 := Lib.hid (below_at HD.out hg (Nat.le_refl _) KK.out.lt); have K11 := Lib.hid hk; clear hk hg))
          go_roundw
          case rel => exact ⟨q + 1, by omega, by go_num, K11, D11⟩
          case measure => simp [intOf]; omega
        · obtain rfl : q = 64 := by omega
          have hge3 : ¬ (64 : Int) < 64 := by omega
          rw [lay_end S HS.out] at KK
          replace K := Lib.hid (K.out.below (below_ext HC.out HD.out))
          replace HB := Lib.hid (below_ext HB.out (below_ext HC.out HD.out))
          go_wp2_with (first
            | (refine blkLoad rfl (.tmp 11) rfl KK.out rfl ?_)
            | (refine blkStore rfl (.tmp 4) (.tmp 59) rfl K.out rfl rfl HS.out ?_; intro w12 hk hg; replace HB := Lib.hid (below_at HB.out hg (Nat.le_refl _) K.out.lt); replace K := Lib.hid hk; clear hk hg))
          refine bodyPost_ret (v := .tuple #[blk S, .int .i64 0]) (ret_blk rfl _ _ K.out rfl rfl) rfl ⟨rfl, HB.out⟩
theorem rPut_none (B : Option Addr) (cap : Nat) (ys : List Int) (w : World) :
    Calls Try.prog 57 #[.int .u64 0, .slice B ys.length cap] w fun e w' => e = .returned (.tuple #[blk zeros, .int .i64 2]) ∧ Below w.heap.size w w' := by
  have HB := Lib.hid (Below.refl w.heap.size w)
  go_enter Try.func57, Try.ntmps57
  go_wp2_with (first
    | (refine blkAlloc rfl rfl ?_; intro w1 hk1 hb1 hz1; have K := Lib.hid hk1; replace HB := Lib.hid (below_ext HB.out hb1); clear hk1 hb1)
    | (refine blkBuild rfl rfl ?_)
    | (refine blkStore rfl (.tmp 4) (.tmp 15) rfl K.out rfl rfl zeros_length ?_; intro w9 hk hg; replace HB := Lib.hid (below_at HB.out hg (Nat.le_refl _) K.out.lt); replace K := Lib.hid hk; clear hk hg))
  refine bodyPost_ret (v := .tuple #[blk zeros, .int .i64 2]) (ret_blk rfl _ _ K.out rfl rfl) rfl ⟨rfl, HB.out⟩
theorem rPut_long (n : Nat) (hn : n < 18446744073709551616) (h0 : n ≠ 0) (B : Option Addr) (cap : Nat) (ys : List Int) (hl : 44 < ys.length) (w : World) :
    Calls Try.prog 57 #[.int .u64 (n : Int), .slice B ys.length cap] w fun e w' => e = .returned (.tuple #[blk zeros, .int .i64 3]) ∧ Below w.heap.size w w' := by
  have HB := Lib.hid (Below.refl w.heap.size w)
  have hn0 : ((n : Int) == 0) = false := by simp; omega
  go_enter Try.func57, Try.ntmps57
  go_wp2_with (first
    | (refine blkAlloc rfl rfl ?_; intro w1 hk1 hb1 hz1; have K := Lib.hid hk1; replace HB := Lib.hid (below_ext HB.out hb1); clear hk1 hb1)
    | (refine blkBuild rfl rfl ?_)
    | (refine blkStore rfl (.tmp 4) (.tmp 19) rfl K.out rfl rfl zeros_length ?_; intro w9 hk hg; replace HB := Lib.hid (below_at HB.out hg (Nat.le_refl _) K.out.lt); replace K := Lib.hid hk; clear hk hg))
  refine bodyPost_ret (v := .tuple #[blk zeros, .int .i64 3]) (ret_blk rfl _ _ K.out rfl rfl) rfl ⟨rfl, HB.out⟩
theorem rPut_seal (n : Nat) (hn : n < 18446744073709551616) (B : Option Addr) (cap : Nat) (ys : List Int) (hw : Wf8 ys) (w : World) (hr : ReadsInt w .u8 B ys.length ys) :
    Calls Try.prog 57 #[.int .u64 (n : Int), .slice B ys.length cap] w fun e w' => e = .returned (.tuple #[blk (seals n ys).1, .int .i64 (seals n ys).2]) ∧ Below w.heap.size w w' := by
  by_cases h0 : n = 0
  · subst h0
    rw [seals_nil]
    exact rPut_none B cap ys w
  · by_cases hl : 44 < ys.length
    · rw [seals_long h0 hl]
      exact rPut_long n hn h0 B cap ys hl w
    · rw [seals_ok h0 (by omega)]
      exact rPut_sealed n hn h0 B cap ys hw (by omega) w hr
end Go.Proofs.Ytdchcggllcgokaa.E

namespace Go.Proofs.Ytdchcggllcgokaa.E
open Go.RowKit Go.Proofs.Ytdchcggllcgokaa.L Go.Proofs.Ytdchcggllcgokaa.U Go.Proofs.Ytdchcggllcgokaa.R Go.Proofs.YtdchcggllcgokaaW.PrintWords
set_option linter.unusedVariables false
set_option linter.unusedSimpArgs false

theorem zeroCells_one (v : Value) (k : Nat) : Builtin.zeroCells #[v] k = (List.replicate k v).toArray := by
  apply Array.ext
  · simp [Builtin.zeroCells]
  · intro i h1 h2
    simp [Builtin.zeroCells, Nat.mod_one]
section
variable {P : Program} {ops : Array Oper} {rest : List Oper} {op : Oper} {a : Act} {W : World} {Q : Exit → Act → World → Prop}
/-- bytes behind an empty slice of no room: a new row, its room all bytes -/
theorem appendFresh (hgd : op.guard = none) (s x : Operand) (t : TypeId) (ho : op.op = .call { callee := .builtin .append, args := #[s, x], argTypes := #[t, t] })
    (ht : P.underlying t = some (.slice 5)) (hinfo : (P.info? 5).map (fun i => (i.zero, i.size, i.bytes)) = some (some (.int .u8 0), 1, 1))
    (g : Nat) (hs : a.eval s = .slice (some ⟨g, 0, none⟩) 0 0) {A : Option Addr} {m c : Nat} {ys : List Int} (hr : ReadsInt W .u8 A m ys) (hx : a.eval x = .slice A m c) (hw : Wf8 ys) (hp : 0 < m) (hm : m ≤ 140737488355328)
    (h : ∀ A1 c1 w1, Byts W.heap.size w1 A1 c1 ys → Room W.heap.size w1 A1 c1 → Below W.heap.size W w1 → wpList P ops Q rest (a.put op.dst (.slice A1 m c1)) w1) : wpList P ops Q (op :: rest) a W := by
  obtain ⟨i0, hi, hzz⟩ := Option.map_eq_some_iff.1 hinfo
  simp only [Prod.mk.injEq] at hzz
  obtain ⟨hz0, hz1, hz2⟩ := hzz
  obtain ⟨ad, rfl, hc⟩ := hr.2.2 hp
  have hl : ys.length = m := hr.1
  have hnews : ∀ j v, (nums .u8 ys)[j]? = some v → W.cell? (ad.add j) = some v := fun j v hv => by
    have hj : j < (nums .u8 ys).length := (List.getElem?_eq_some_iff.1 hv).1
    rw [nums_length] at hj
    rw [hc j (by omega)]
    simp only [nums, List.getElem?_map] at hv
    rw [List.getElem?_eq_getElem (by omega)] at hv
    rw [List.getD_eq_getElem?_getD, List.getElem?_eq_getElem (by omega)]
    simpa using hv
  have hrun := run_append_grow (P := P) W t op.type 5 i0 (.int .u8 0) ht hi hz0 ⟨g, 0, none⟩ 0 0 [] (by simp) (fun j v hv => by simp at hv) ad m c (nums .u8 ys) (by rw [nums_length, hz1]; omega) hnews (by omega) (by omega) (growslice_fits (by omega) (by rw [hz2]; omega))
  have hge := grownCap_ge W (0 + m) 0 5
  have hle := grownCap_le_maxLen W (0 + m) 0 5 (by simp only [maxLen]; omega)
  obtain ⟨C, hC⟩ : ∃ C, C = grownCap W (0 + m) 0 5 := ⟨_, rfl⟩
  rw [← hC] at hrun hge hle
  have hcells : (([] : List Value).toArray ++ (nums .u8 ys).toArray ++ Builtin.zeroCells (Value.cells (.int .u8 0)) (C - (0 + m))) = (nums .u8 (ys ++ List.replicate (C - m) 0)).toArray := by
    show (([] : List Value).toArray ++ (nums .u8 ys).toArray ++ Builtin.zeroCells #[.int .u8 0] (C - (0 + m))) = _
    rw [zeroCells_one]
    simp [nums]
  rw [hcells] at hrun
  have hlen : (ys ++ List.replicate (C - m) 0).length = C := by rw [List.length_append, List.length_replicate]; omega
  have hb : (W.drew.alloc (.cells (nums .u8 (ys ++ List.replicate (C - m) 0)).toArray 5)).heap[W.heap.size]? = some (.cells (nums .u8 (ys ++ List.replicate (C - m) 0)).toArray 5 (0, 0)) := heap_alloc_new W.drew _
  have h1 : Byts W.heap.size (W.drew.alloc (.cells (nums .u8 (ys ++ List.replicate (C - m) 0)).toArray 5)) (some ⟨W.heap.size, 0, none⟩) C ys := by
    refine ⟨by rw [nums_length]; omega, .inr ⟨W.heap.size, C, _, rfl, Nat.le_refl _, hb, by omega, hle, by simp only [List.size_toArray, nums_length, hlen]; omega, ?_⟩⟩
    show (nums .u8 (ys ++ List.replicate (C - m) 0)).take (ys.length * 1) = _
    rw [Nat.mul_one, nums_append]
    have h9 := List.take_left (l₁ := nums .u8 ys) (l₂ := nums .u8 (List.replicate (C - m) 0))
    rwa [nums_length] at h9
  have h2 : Room W.heap.size (W.drew.alloc (.cells (nums .u8 (ys ++ List.replicate (C - m) 0)).toArray 5)) (some ⟨W.heap.size, 0, none⟩) C := by
    refine ⟨_, wf_append hw (zeros_wf _), hlen, by rw [nums_length]; omega, .inr ⟨W.heap.size, C, _, rfl, Nat.le_refl _, hb, Nat.le_refl _, hle, by simp only [List.size_toArray, nums_length, hlen]; omega, ?_⟩⟩
    show (nums .u8 (ys ++ List.replicate (C - m) 0)).take (C * 1) = _
    rw [Nat.mul_one, List.take_of_length_le (by rw [nums_length]; omega)]
  have h3 : Below W.heap.size W (W.drew.alloc (.cells (nums .u8 (ys ++ List.replicate (C - m) 0)).toArray 5)) := below_alloc (below_drewN (Below.refl _ _) 1) _
  refine wpList_plain hgd fun K hK => ?_
  unfold Oper.wp execOp
  simp only [ho, resolve, invoke, builtin, Sem.run_bind, Sem.run_pure, Result.andThen_ok, List.map_toArray, List.map_cons, List.map_nil, hs, hx, hrun]
  have h4 := h _ _ _ h1 h2 h3
  rw [show 0 + m = m by omega]
  exact hK _ _ h4
end
set_option maxRecDepth 100000 in
theorem Clone_any (ad : Addr) (cap : Nat) (ys : List Int) (hw : Wf8 ys) (hp : 0 < ys.length) (hm : ys.length ≤ 140737488355328) (w : World) (hr : ReadsInt w .u8 (some ad) ys.length ys) :
    Calls Try.prog 125 #[.slice (some ad) ys.length cap] w fun e w' => (∃ A c, e = .returned (.slice A ys.length c) ∧ Byts w.heap.size w' A c ys ∧ Room w.heap.size w' A c) ∧ Below w.heap.size w w' := by
  have HR := Lib.hid hr
  have HP := Lib.hid hp
  have HM := Lib.hid hm
  have q1 := fun (w : World) => Lib.run_eql_slice_nil (P := Try.prog) w 22 5 (some ad) ys.length cap 0 0 Try.underlying22
  clear hr hp
  go_enter Try.func125, Try.ntmps125
  go_wp2_with (first
    | (at_builtin; refine appendFresh rfl (.tmp 5) (.tmp 6) 22 rfl Try.underlying22 info_u8 w.heap.size rfl (HR.out.below (below_alloc (Below.refl _ _) _)) rfl hw HP.out HM.out ?_; intro A1 c1 w1 o1 r1 hb1; have O1 := Lib.hid o1; have R1 := Lib.hid r1; have B1 := Lib.hid hb1; clear o1 r1 hb1))
  go_ret
  exact ⟨⟨A1, c1, rfl, own_lower O1.out (by simp), by
    obtain ⟨zs, h1, h2, h3⟩ := R1.out
    exact ⟨zs, h1, h2, own_lower h3 (by simp)⟩⟩, below_1 B1.out⟩
end Go.Proofs.Ytdchcggllcgokaa.E

namespace Go.Proofs.Ytdchcggllcgokaa.E
open Go.RowKit Go.Proofs.Ytdchcggllcgokaa.L Go.Proofs.Ytdchcggllcgokaa.U Go.Proofs.Ytdchcggllcgokaa.R Go.Proofs.YtdchcggllcgokaaW.PrintWords
set_option linter.unusedVariables false
set_option linter.unusedSimpArgs false

def first (xs : List Int) : Nat := vle (bat xs 0) 8
def last (xs : List Int) : Nat := vle (bat xs 56) 8
def told (xs : List Int) : Nat := vle (bat xs 52) 4
def inner (xs : List Int) : List Int := (xs.drop 8).take 44
def gots (xs : List Int) : Nat × List Int × Int :=
  if first xs = 0 ∨ first xs ≠ last xs then (0, [], 5) else if crcs (xs.take 52) ≠ told xs then (0, [], 6) else (first xs, inner xs, 0)
theorem wf_take {xs : List Int} (h : Wf8 xs) (n : Nat) : Wf8 (xs.take n) := fun x hx => h x (List.mem_of_mem_take hx)
theorem wf_drop {xs : List Int} (h : Wf8 xs) (n : Nat) : Wf8 (xs.drop n) := fun x hx => h x (List.mem_of_mem_drop hx)
theorem inner_wf {xs : List Int} (h : Wf8 xs) : Wf8 (inner xs) := wf_take (wf_drop h 8) 44
theorem inner_length {xs : List Int} (h : xs.length = 64) : (inner xs).length = 44 := by simp [inner, h]
theorem bat_lt {xs : List Int} (h : Wf8 xs) (a i : Nat) : bat xs a i < 256 := by have := rd_byte h (a + i); rw [bat]; omega
theorem first_lt {xs : List Int} (h : Wf8 xs) : first xs < 18446744073709551616 := vle_lt (bat xs 0) (bat_lt h 0) 8
theorem last_lt {xs : List Int} (h : Wf8 xs) : last xs < 18446744073709551616 := vle_lt (bat xs 56) (bat_lt h 56) 8
theorem told_lt {xs : List Int} (h : Wf8 xs) : told xs < 4294967296 := vle_lt (bat xs 52) (bat_lt h 52) 4
theorem Room.none_ (b : Nat) (W : World) : Room b W none 0 := ⟨[], (fun x hx => by cases hx), rfl, own_nil W b _ 1⟩
theorem getN {xs : List Int} (hw : Wf8 xs) (hl : xs.length = 64) (a s : Nat) (h1 : 1 ≤ s) (h2 : s ≤ 8) (h3 : a + s ≤ 64) (v : Nat) (hv : v = vle (bat xs a) s) (A : Option Addr) (w : World) (hr : ReadsInt w .u8 A 64 xs) :
    Calls Try.prog 44 #[.slice A 64 64, .int .i64 (a : Int), .int .i64 (s : Int)] w fun e w' => e = .returned (.tuple #[.int .u64 (v : Int), .int .i64 0]) ∧ Below w.heap.size w w' := by
  have h := Get_b A 64 xs hw a s (by omega) (by omega) (by omega) (by decide) w (by rw [hl]; exact hr)
  rw [gets_ok h1 h2 (by omega), hl, ← hv] at h
  exact h
theorem rgetN {xs : List Int} (hw : Wf8 xs) (hl : xs.length = 64) (a s : Nat) (h1 : 1 ≤ s) (h2 : s ≤ 8) (h3 : a + s ≤ 64) (v : Nat) (hv : v = vle (bat xs a) s) (A : Option Addr) (c : Nat) (hc : 64 ≤ c) (hc2 : c ≤ 9223372036854775807) (w : World) (hr : ReadsInt w .u8 A 64 xs) :
    Calls Try.prog 45 #[.slice A 64 c, .int .i64 (a : Int), .int .i64 (s : Int)] w fun e w' => e = .returned (.tuple #[.int .u64 (v : Int), .int .i64 0]) ∧ Below w.heap.size w w' := by
  have h := rGet_b A c xs hw a s (by omega) (by omega) (by omega) hc2 w (by rw [hl]; exact hr)
  rw [gets_ok h1 h2 (by omega), hl, ← hv] at h
  exact h
/-- what a call of Get hands back -/
def GotP (b : Nat) (xs : List Int) (e : Ending) (W : World) : Prop := ∃ A c, e = .returned (.tuple #[.int .u64 ((gots xs).1 : Int), .slice A (gots xs).2.1.length c, .int .i64 (gots xs).2.2]) ∧ Byts b W A c (gots xs).2.1
def GotF (b : Nat) (xs : List Int) (e : Ending) (W : World) : Prop := ∃ A c, e = .returned (.tuple #[.int .u64 ((gots xs).1 : Int), .slice A (gots xs).2.1.length c, .int .i64 (gots xs).2.2]) ∧ Byts b W A c (gots xs).2.1 ∧ Room b W A c
theorem got_err {b : Nat} {xs : List Int} {k : Int} {W : World} (h : gots xs = (0, [], k)) : GotF b xs (.returned (.tuple #[.int .u64 0, .slice none 0 0, .int .i64 k])) W :=
  ⟨none, 0, by rw [h]; rfl, by rw [h]; exact Byts.none_ _ _, Room.none_ _ _⟩
theorem got_errP {b : Nat} {xs : List Int} {k : Int} {W : World} (h : gots xs = (0, [], k)) : GotP b xs (.returned (.tuple #[.int .u64 0, .slice none 0 0, .int .i64 k])) W :=
  ⟨none, 0, by rw [h]; rfl, by rw [h]; exact Byts.none_ _ _⟩
set_option maxRecDepth 100000 in
set_option maxHeartbeats 2000000 in
theorem Get_seal (xs : List Int) (hl : xs.length = 64) (hw : Wf8 xs) (w : World) :
    Calls Try.prog 59 #[blk xs] w fun e w' => GotF w.heap.size xs e w' ∧ Below w.heap.size w w' := by
  have HB := Lib.hid (Below.refl w.heap.size w)
  have HX := Lib.hid hl
  obtain ⟨f, hf⟩ : ∃ f, f = first xs := ⟨_, rfl⟩
  obtain ⟨l, hl2⟩ : ∃ l, l = last xs := ⟨_, rfl⟩
  obtain ⟨m, hm⟩ : ∃ m, m = told xs := ⟨_, rfl⟩
  obtain ⟨c, hc⟩ : ∃ c, c = crcs (xs.take 52) := ⟨_, rfl⟩
  have fl : f < 18446744073709551616 := by rw [hf]; exact first_lt hw
  have ll : l < 18446744073709551616 := by rw [hl2]; exact last_lt hw
  have ml : m < 4294967296 := by rw [hm]; exact told_lt hw
  have cl : c < 4294967296 := by rw [hc]; exact crcs_lt _
  have P1 := Lib.hid (fun A w hr => getN hw hl 0 8 (by decide) (by decide) (by decide) f hf A w hr)
  have P2 := Lib.hid (fun A w hr => getN hw hl 56 8 (by decide) (by decide) (by decide) l hl2 A w hr)
  have P3 := Lib.hid (fun A w hr => getN hw hl 52 4 (by decide) (by decide) (by decide) m hm A w hr)
  have P4 : Hid (∀ (A : Option Addr) (cap : Nat) (w : World), ReadsInt w .u8 A 52 (xs.take 52) → Calls Try.prog 123 #[.slice A 52 cap] w fun e w' => e = .returned (.int .u32 (c : Int)) ∧ Below w.heap.size w w') := Lib.hid fun A cap w hr => by
    have h52 : (xs.take 52).length = 52 := by simp [hl]
    have h := Of_b A cap (xs.take 52) (wf_take hw 52) w (by rw [h52]; exact hr)
    rw [h52, ← hc] at h
    exact h
  have P5 : Hid (∀ (ad : Addr) (cap : Nat) (w : World), ReadsInt w .u8 (some ad) 44 (inner xs) → Calls Try.prog 125 #[.slice (some ad) 44 cap] w fun e w' => (∃ A c, e = .returned (.slice A 44 c) ∧ Byts w.heap.size w' A c (inner xs) ∧ Room w.heap.size w' A c) ∧ Below w.heap.size w w') := Lib.hid fun ad cap w hr => by
    have h := Clone_any ad cap (inner xs) (inner_wf hw) (by rw [inner_length hl]; decide) (by rw [inner_length hl]; decide) w (by rw [inner_length hl]; exact hr)
    rw [inner_length hl] at h
    exact h
  rcases (by omega : f = 0 ∨ (f ≠ 0 ∧ f ≠ l) ∨ (f ≠ 0 ∧ f = l ∧ c ≠ m) ∨ (f ≠ 0 ∧ f = l ∧ c = m)) with h | ⟨h, h2⟩ | ⟨h, h2, h3⟩ | ⟨h, h2, h3⟩
  · have HG := Lib.hid (show gots xs = (0, [], 5) from if_pos (.inl (by rw [← hf]; exact h)))
    have e1 : ((f : Int) == 0) = true := by simp [h]
    clear hf hl2 hm hc hw hl h
    go_enter Try.func59, Try.ntmps59
    go_wp2_with (first
      | (refine blkBox rfl (.tmp 0) rfl rfl HX.out ?_; intro w1 hk1 hb1 hz1; have K := Lib.hid hk1; replace HB := Lib.hid (below_ext HB.out hb1); clear hk1 hb1)
      | (go_at_call_of 44 (Value.int .i64 0); refine (P1.out _ _ (by have h := K.out.all; rw [HX.out] at h; exact h)).mono ?_; rintro e w2 ⟨rfl, hb⟩; replace K := Lib.hid (K.out.below hb); replace HB := Lib.hid (below_ext HB.out hb); clear hb)
      | (go_at_call_of 44 (Value.int .i64 56); refine (P2.out _ _ (by have h := K.out.all; rw [HX.out] at h; exact h)).mono ?_; rintro e w3 ⟨rfl, hb⟩; replace K := Lib.hid (K.out.below hb); replace HB := Lib.hid (below_ext HB.out hb); clear hb))
    go_ret3
    exact ⟨got_err HG.out, HB.out⟩
  · have HG := Lib.hid (show gots xs = (0, [], 5) from if_pos (.inr (by rw [← hf, ← hl2]; exact h2)))
    have e1 : ((f : Int) == 0) = false := by simp; omega
    have e2 : ((f : Int) != (l : Int)) = true := by simp; omega
    clear hf hl2 hm hc hw hl h h2
    go_enter Try.func59, Try.ntmps59
    go_wp2_with (first
      | (refine blkBox rfl (.tmp 0) rfl rfl HX.out ?_; intro w1 hk1 hb1 hz1; have K := Lib.hid hk1; replace HB := Lib.hid (below_ext HB.out hb1); clear hk1 hb1)
      | (go_at_call_of 44 (Value.int .i64 0); refine (P1.out _ _ (by have h := K.out.all; rw [HX.out] at h; exact h)).mono ?_; rintro e w2 ⟨rfl, hb⟩; replace K := Lib.hid (K.out.below hb); replace HB := Lib.hid (below_ext HB.out hb); clear hb)
      | (go_at_call_of 44 (Value.int .i64 56); refine (P2.out _ _ (by have h := K.out.all; rw [HX.out] at h; exact h)).mono ?_; rintro e w3 ⟨rfl, hb⟩; replace K := Lib.hid (K.out.below hb); replace HB := Lib.hid (below_ext HB.out hb); clear hb))
    go_ret3
    exact ⟨got_err HG.out, HB.out⟩
  · have HG := Lib.hid (show gots xs = (0, [], 6) by rw [gots, if_neg (by rw [← hf, ← hl2]; omega), if_pos (by rw [← hc, ← hm]; exact h3)])
    have e1 : ((f : Int) == 0) = false := by simp; omega
    have e2 : ((f : Int) != (l : Int)) = false := by simp; omega
    have e3 : ((c : Int) != (m : Int)) = true := by simp; omega
    clear hf hl2 hm hc hw hl h h2 h3
    go_enter Try.func59, Try.ntmps59
    go_wp2_with (first
      | (refine blkBox rfl (.tmp 0) rfl rfl HX.out ?_; intro w1 hk1 hb1 hz1; have K := Lib.hid hk1; replace HB := Lib.hid (below_ext HB.out hb1); clear hk1 hb1)
      | (go_at_call_of 44 (Value.int .i64 0); refine (P1.out _ _ (by have h := K.out.all; rw [HX.out] at h; exact h)).mono ?_; rintro e w2 ⟨rfl, hb⟩; replace K := Lib.hid (K.out.below hb); replace HB := Lib.hid (below_ext HB.out hb); clear hb)
      | (go_at_call_of 44 (Value.int .i64 56); refine (P2.out _ _ (by have h := K.out.all; rw [HX.out] at h; exact h)).mono ?_; rintro e w3 ⟨rfl, hb⟩; replace K := Lib.hid (K.out.below hb); replace HB := Lib.hid (below_ext HB.out hb); clear hb)
      | (go_at_call_of 44 (Value.int .i64 52); refine (P3.out _ _ (by have h := K.out.all; rw [HX.out] at h; exact h)).mono ?_; rintro e w4 ⟨rfl, hb⟩; replace K := Lib.hid (K.out.below hb); replace HB := Lib.hid (below_ext HB.out hb); clear hb)
      | (go_at_call 123; refine (P4.out _ _ _ (by have h := K.out.reads 0 52 (by decide); rw [List.drop_zero] at h; exact h)).mono ?_; rintro e w5 ⟨rfl, hb⟩; replace K := Lib.hid (K.out.below hb); replace HB := Lib.hid (below_ext HB.out hb); clear hb))
    go_ret3
    exact ⟨got_err HG.out, HB.out⟩
  · have HG := Lib.hid (show gots xs = (f, inner xs, 0) by rw [gots, if_neg (by rw [← hf, ← hl2]; omega), if_neg (by rw [← hc, ← hm]; omega), hf])
    have HI := Lib.hid (inner_length hl)
    have e1 : ((f : Int) == 0) = false := by simp; omega
    have e2 : ((f : Int) != (l : Int)) = false := by simp; omega
    have e3 : ((c : Int) != (m : Int)) = false := by simp; omega
    clear hf hl2 hm hc hw hl h h2 h3
    go_enter Try.func59, Try.ntmps59
    go_wp2_with (first
      | (refine blkBox rfl (.tmp 0) rfl rfl HX.out ?_; intro w1 hk1 hb1 hz1; have K := Lib.hid hk1; replace HB := Lib.hid (below_ext HB.out hb1); clear hk1 hb1)
      | (go_at_call_of 44 (Value.int .i64 0); refine (P1.out _ _ (by have h := K.out.all; rw [HX.out] at h; exact h)).mono ?_; rintro e w2 ⟨rfl, hb⟩; replace K := Lib.hid (K.out.below hb); replace HB := Lib.hid (below_ext HB.out hb); clear hb)
      | (go_at_call_of 44 (Value.int .i64 56); refine (P2.out _ _ (by have h := K.out.all; rw [HX.out] at h; exact h)).mono ?_; rintro e w3 ⟨rfl, hb⟩; replace K := Lib.hid (K.out.below hb); replace HB := Lib.hid (below_ext HB.out hb); clear hb)
      | (go_at_call_of 44 (Value.int .i64 52); refine (P3.out _ _ (by have h := K.out.all; rw [HX.out] at h; exact h)).mono ?_; rintro e w4 ⟨rfl, hb⟩; replace K := Lib.hid (K.out.below hb); replace HB := Lib.hid (below_ext HB.out hb); clear hb)
      | (go_at_call 123; refine (P4.out _ _ _ (by have h := K.out.reads 0 52 (by decide); rw [List.drop_zero] at h; exact h)).mono ?_; rintro e w5 ⟨rfl, hb⟩; replace K := Lib.hid (K.out.below hb); replace HB := Lib.hid (below_ext HB.out hb); clear hb)
      | (go_at_call 125; refine (P5.out _ _ _ (K.out.reads 8 44 (by decide))).mono ?_; rintro e w6 ⟨⟨A6, c6, rfl, o6, r6⟩, hb⟩; have O6 := Lib.hid (own_lower o6 HB.out.size); have R6 := Lib.hid (show Room w.heap.size w6 A6 c6 from by obtain ⟨zs, h1, h2, h3⟩ := r6; exact ⟨zs, h1, h2, own_lower h3 HB.out.size⟩); clear o6 r6; replace K := Lib.hid (K.out.below hb); replace HB := Lib.hid (below_ext HB.out hb); clear hb))
    go_ret3
    exact ⟨⟨A6, c6, by rw [HG.out]; show _ = Ending.returned (.tuple #[.int .u64 (f : Int), .slice A6 (inner xs).length c6, .int .i64 0]); rw [HI.out]; rfl, by rw [HG.out]; exact O6.out, R6.out⟩, HB.out⟩
theorem sub_reads {W : World} {A : Option Addr} {xs : List Int} {c : Nat} (hl : xs.length = 64) (hc : 64 ≤ c) (h : ReadsInt W .u8 A 64 xs) : ReadsInt W .u8 (if c = 8 then A else A.map (·.add 8)) 44 (inner xs) := by
  have h2 := (h.drop_ 8 (by decide) hc).take_ 44 (by decide)
  exact h2
set_option maxRecDepth 100000 in
set_option maxHeartbeats 2000000 in
theorem rGet_seal (xs : List Int) (hl : xs.length = 64) (hw : Wf8 xs) (w : World) :
    Calls Try.prog 60 #[blk xs] w fun e w' => GotP w.heap.size xs e w' ∧ Below w.heap.size w w' := by
  have HB := Lib.hid (Below.refl w.heap.size w)
  have HX := Lib.hid hl
  obtain ⟨f, hf⟩ : ∃ f, f = first xs := ⟨_, rfl⟩
  obtain ⟨l, hl2⟩ : ∃ l, l = last xs := ⟨_, rfl⟩
  obtain ⟨m, hm⟩ : ∃ m, m = told xs := ⟨_, rfl⟩
  obtain ⟨c, hc⟩ : ∃ c, c = crcs (xs.take 52) := ⟨_, rfl⟩
  have fl : f < 18446744073709551616 := by rw [hf]; exact first_lt hw
  have ll : l < 18446744073709551616 := by rw [hl2]; exact last_lt hw
  have ml : m < 4294967296 := by rw [hm]; exact told_lt hw
  have cl : c < 4294967296 := by rw [hc]; exact crcs_lt _
  have P0 : Hid (∀ (A : Option Addr) (cap : Nat) (w : World), ReadsInt w .u8 A 64 xs → Calls Try.prog 41 #[.slice A 64 cap] w fun e w' => (∃ A c, e = .returned (.slice A 64 c) ∧ Byts w.heap.size w' A c xs) ∧ Below w.heap.size w w') := Lib.hid fun A cap w hr => by
    have h := copy_b A cap xs w (by rw [hl]; exact hr) (by omega)
    rw [hl] at h
    exact h
  have P1 := Lib.hid (fun A c hc hc2 w hr => rgetN hw hl 0 8 (by decide) (by decide) (by decide) f hf A c hc hc2 w hr)
  have P2 := Lib.hid (fun A c hc hc2 w hr => rgetN hw hl 56 8 (by decide) (by decide) (by decide) l hl2 A c hc hc2 w hr)
  have P3 := Lib.hid (fun A c hc hc2 w hr => rgetN hw hl 52 4 (by decide) (by decide) (by decide) m hm A c hc hc2 w hr)
  have P4 : Hid (∀ (A : Option Addr) (cap : Nat) (w : World), ReadsInt w .u8 A 52 (xs.take 52) → Calls Try.prog 124 #[.slice A 52 cap] w fun e w' => e = .returned (.int .u32 (c : Int)) ∧ Below w.heap.size w w') := Lib.hid fun A cap w hr => by
    have h52 : (xs.take 52).length = 52 := by simp [hl]
    have h := rOf_b A cap (xs.take 52) (wf_take hw 52) w (by rw [h52]; exact hr)
    rw [h52, ← hc] at h
    exact h
  have P5 : Hid (∀ (A : Option Addr) (cap : Nat) (w : World), ReadsInt w .u8 A 44 (inner xs) → Calls Try.prog 41 #[.slice A 44 cap] w fun e w' => (∃ A c, e = .returned (.slice A 44 c) ∧ Byts w.heap.size w' A c (inner xs)) ∧ Below w.heap.size w w') := Lib.hid fun A cap w hr => by
    have h := copy_b A cap (inner xs) w (by rw [inner_length hl]; exact hr) (by rw [inner_length hl]; decide)
    rw [inner_length hl] at h
    exact h
  have HS5 : Hid (∀ (W : World) (A : Option Addr), ReadsInt W .u8 A 64 xs → ReadsInt W .u8 (A.map (·.add 8)) 44 (inner xs)) := Lib.hid fun W A h => by
    have h2 := sub_reads hl (by decide : 64 ≤ 65) h
    exact h2
  rcases (by omega : f = 0 ∨ (f ≠ 0 ∧ f ≠ l) ∨ (f ≠ 0 ∧ f = l ∧ c ≠ m) ∨ (f ≠ 0 ∧ f = l ∧ c = m)) with h | ⟨h, h2⟩ | ⟨h, h2, h3⟩ | ⟨h, h2, h3⟩
  · have HG := Lib.hid (show gots xs = (0, [], 5) from if_pos (.inl (by rw [← hf]; exact h)))
    have e1 : ((f : Int) == 0) = true := by simp [h]
    clear hf hl2 hm hc hw hl h
    go_enter Try.func60, Try.ntmps60
    go_wp2_with (first
      | (refine blkBox rfl (.tmp 0) rfl rfl HX.out ?_; intro w1 hk1 hb1 hz1; have K := Lib.hid hk1; replace HB := Lib.hid (below_ext HB.out hb1); clear hk1 hb1)
      | (go_at_call_of 41 (Value.slice (some ⟨w.heap.size, 0, none⟩) 64 64); refine (P0.out _ _ _ (by have h := K.out.all; rw [HX.out] at h; exact h)).mono ?_; rintro e w2 ⟨⟨A1, c1, rfl, o1⟩, hb⟩; have O1 := Lib.hid o1; have c64 : 64 ≤ c1 := (by have h := o1.le; rw [HX.out] at h; exact h); have cm := o1.cap; clear o1; replace HB := Lib.hid (below_ext HB.out hb); clear hb)
      | (go_at_call_of 45 (Value.int .i64 0); refine (P1.out _ _ c64 cm _ (show ReadsInt _ .u8 A1 64 xs from by have h := O1.out.reads; rw [HX.out] at h; exact h)).mono ?_; rintro e w3 ⟨rfl, hb⟩; replace O1 := Lib.hid (O1.out.below hb); replace HB := Lib.hid (below_ext HB.out hb); clear hb)
      | (go_at_call_of 45 (Value.int .i64 56); refine (P2.out _ _ c64 cm _ (show ReadsInt _ .u8 A1 64 xs from by have h := O1.out.reads; rw [HX.out] at h; exact h)).mono ?_; rintro e w4 ⟨rfl, hb⟩; replace O1 := Lib.hid (O1.out.below hb); replace HB := Lib.hid (below_ext HB.out hb); clear hb))
    go_ret3
    exact ⟨got_errP HG.out, HB.out⟩
  · have HG := Lib.hid (show gots xs = (0, [], 5) from if_pos (.inr (by rw [← hf, ← hl2]; exact h2)))
    have e1 : ((f : Int) == 0) = false := by simp; omega
    have e2 : ((f : Int) != (l : Int)) = true := by simp; omega
    clear hf hl2 hm hc hw hl h h2
    go_enter Try.func60, Try.ntmps60
    go_wp2_with (first
      | (refine blkBox rfl (.tmp 0) rfl rfl HX.out ?_; intro w1 hk1 hb1 hz1; have K := Lib.hid hk1; replace HB := Lib.hid (below_ext HB.out hb1); clear hk1 hb1)
      | (go_at_call_of 41 (Value.slice (some ⟨w.heap.size, 0, none⟩) 64 64); refine (P0.out _ _ _ (by have h := K.out.all; rw [HX.out] at h; exact h)).mono ?_; rintro e w2 ⟨⟨A1, c1, rfl, o1⟩, hb⟩; have O1 := Lib.hid o1; have c64 : 64 ≤ c1 := (by have h := o1.le; rw [HX.out] at h; exact h); have cm := o1.cap; clear o1; replace HB := Lib.hid (below_ext HB.out hb); clear hb)
      | (go_at_call_of 45 (Value.int .i64 0); refine (P1.out _ _ c64 cm _ (show ReadsInt _ .u8 A1 64 xs from by have h := O1.out.reads; rw [HX.out] at h; exact h)).mono ?_; rintro e w3 ⟨rfl, hb⟩; replace O1 := Lib.hid (O1.out.below hb); replace HB := Lib.hid (below_ext HB.out hb); clear hb)
      | (go_at_call_of 45 (Value.int .i64 56); refine (P2.out _ _ c64 cm _ (show ReadsInt _ .u8 A1 64 xs from by have h := O1.out.reads; rw [HX.out] at h; exact h)).mono ?_; rintro e w4 ⟨rfl, hb⟩; replace O1 := Lib.hid (O1.out.below hb); replace HB := Lib.hid (below_ext HB.out hb); clear hb))
    go_ret3
    exact ⟨got_errP HG.out, HB.out⟩
  · have HG := Lib.hid (show gots xs = (0, [], 6) by rw [gots, if_neg (by rw [← hf, ← hl2]; omega), if_pos (by rw [← hc, ← hm]; exact h3)])
    have e1 : ((f : Int) == 0) = false := by simp; omega
    have e2 : ((f : Int) != (l : Int)) = false := by simp; omega
    have e3 : ((c : Int) != (m : Int)) = true := by simp; omega
    clear hf hl2 hm hc hw hl h h2 h3
    go_enter Try.func60, Try.ntmps60
    go_wp2_with (first
      | (refine blkBox rfl (.tmp 0) rfl rfl HX.out ?_; intro w1 hk1 hb1 hz1; have K := Lib.hid hk1; replace HB := Lib.hid (below_ext HB.out hb1); clear hk1 hb1)
      | (go_at_call_of 41 (Value.slice (some ⟨w.heap.size, 0, none⟩) 64 64); refine (P0.out _ _ _ (by have h := K.out.all; rw [HX.out] at h; exact h)).mono ?_; rintro e w2 ⟨⟨A1, c1, rfl, o1⟩, hb⟩; have O1 := Lib.hid o1; have c64 : 64 ≤ c1 := (by have h := o1.le; rw [HX.out] at h; exact h); have cm := o1.cap; clear o1; replace HB := Lib.hid (below_ext HB.out hb); clear hb)
      | (go_at_call_of 45 (Value.int .i64 0); refine (P1.out _ _ c64 cm _ (show ReadsInt _ .u8 A1 64 xs from by have h := O1.out.reads; rw [HX.out] at h; exact h)).mono ?_; rintro e w3 ⟨rfl, hb⟩; replace O1 := Lib.hid (O1.out.below hb); replace HB := Lib.hid (below_ext HB.out hb); clear hb)
      | (go_at_call_of 45 (Value.int .i64 56); refine (P2.out _ _ c64 cm _ (show ReadsInt _ .u8 A1 64 xs from by have h := O1.out.reads; rw [HX.out] at h; exact h)).mono ?_; rintro e w4 ⟨rfl, hb⟩; replace O1 := Lib.hid (O1.out.below hb); replace HB := Lib.hid (below_ext HB.out hb); clear hb)
      | (go_at_call_of 45 (Value.int .i64 52); refine (P3.out _ _ c64 cm _ (show ReadsInt _ .u8 A1 64 xs from by have h := O1.out.reads; rw [HX.out] at h; exact h)).mono ?_; rintro e w5 ⟨rfl, hb⟩; replace O1 := Lib.hid (O1.out.below hb); replace HB := Lib.hid (below_ext HB.out hb); clear hb)
      | (go_at_call 124; refine (P4.out _ _ _ (by have h := (show ReadsInt _ .u8 A1 64 xs from by have h := O1.out.reads; rw [HX.out] at h; exact h).take_ 52 (by decide); exact h)).mono ?_; rintro e w6 ⟨rfl, hb⟩; replace O1 := Lib.hid (O1.out.below hb); replace HB := Lib.hid (below_ext HB.out hb); clear hb))
    go_ret3
    exact ⟨got_errP HG.out, HB.out⟩
  · have HG := Lib.hid (show gots xs = (f, inner xs, 0) by rw [gots, if_neg (by rw [← hf, ← hl2]; omega), if_neg (by rw [← hc, ← hm]; omega), hf])
    have HI := Lib.hid (inner_length hl)
    have e1 : ((f : Int) == 0) = false := by simp; omega
    have e2 : ((f : Int) != (l : Int)) = false := by simp; omega
    have e3 : ((c : Int) != (m : Int)) = false := by simp; omega
    clear hf hl2 hm hc hw hl h h2 h3
    go_enter Try.func60, Try.ntmps60
    go_wp2_with (first
      | (refine blkBox rfl (.tmp 0) rfl rfl HX.out ?_; intro w1 hk1 hb1 hz1; have K := Lib.hid hk1; replace HB := Lib.hid (below_ext HB.out hb1); clear hk1 hb1)
      | (go_at_call_of 41 (Value.slice (some ⟨w.heap.size, 0, none⟩) 64 64); refine (P0.out _ _ _ (by have h := K.out.all; rw [HX.out] at h; exact h)).mono ?_; rintro e w2 ⟨⟨A1, c1, rfl, o1⟩, hb⟩; have O1 := Lib.hid o1; have c64 : 64 ≤ c1 := (by have h := o1.le; rw [HX.out] at h; exact h); have cm := o1.cap; clear o1; replace HB := Lib.hid (below_ext HB.out hb); clear hb)
      | (go_at_call_of 45 (Value.int .i64 0); refine (P1.out _ _ c64 cm _ (show ReadsInt _ .u8 A1 64 xs from by have h := O1.out.reads; rw [HX.out] at h; exact h)).mono ?_; rintro e w3 ⟨rfl, hb⟩; replace O1 := Lib.hid (O1.out.below hb); replace HB := Lib.hid (below_ext HB.out hb); clear hb)
      | (go_at_call_of 45 (Value.int .i64 56); refine (P2.out _ _ c64 cm _ (show ReadsInt _ .u8 A1 64 xs from by have h := O1.out.reads; rw [HX.out] at h; exact h)).mono ?_; rintro e w4 ⟨rfl, hb⟩; replace O1 := Lib.hid (O1.out.below hb); replace HB := Lib.hid (below_ext HB.out hb); clear hb)
      | (go_at_call_of 45 (Value.int .i64 52); refine (P3.out _ _ c64 cm _ (show ReadsInt _ .u8 A1 64 xs from by have h := O1.out.reads; rw [HX.out] at h; exact h)).mono ?_; rintro e w5 ⟨rfl, hb⟩; replace O1 := Lib.hid (O1.out.below hb); replace HB := Lib.hid (below_ext HB.out hb); clear hb)
      | (go_at_call 124; refine (P4.out _ _ _ (by have h := (show ReadsInt _ .u8 A1 64 xs from by have h := O1.out.reads; rw [HX.out] at h; exact h).take_ 52 (by decide); exact h)).mono ?_; rintro e w6 ⟨rfl, hb⟩; replace O1 := Lib.hid (O1.out.below hb); replace HB := Lib.hid (below_ext HB.out hb); clear hb)
      | (go_at_call 41; refine (P5.out _ _ _ (HS5.out _ _ (show ReadsInt _ .u8 A1 64 xs from by have h := O1.out.reads; rw [HX.out] at h; exact h))).mono ?_; rintro e w7 ⟨⟨A7, c7, rfl, o7⟩, hb⟩; have O7 := Lib.hid (own_lower o7 HB.out.size); clear o7; replace O1 := Lib.hid (O1.out.below hb); replace HB := Lib.hid (below_ext HB.out hb); clear hb))
    go_ret3
    exact ⟨⟨A7, c7, by rw [HG.out]; show _ = Ending.returned (.tuple #[.int .u64 (f : Int), .slice A7 (inner xs).length c7, .int .i64 0]); rw [HI.out]; rfl, by rw [HG.out]; exact O7.out⟩, HB.out⟩
end Go.Proofs.Ytdchcggllcgokaa.E

namespace Go.Proofs.Ytdchcggllcgokaa.E
open Go.RowKit Go.Proofs.Ytdchcggllcgokaa.L Go.Proofs.Ytdchcggllcgokaa.U Go.Proofs.Ytdchcggllcgokaa.R Go.Proofs.YtdchcggllcgokaaW.PrintWords
set_option linter.unusedVariables false
set_option linter.unusedSimpArgs false

def news (xs ys : List Int) : Int × Int :=
  if (gots xs).2.2 ≠ 0 ∧ (gots ys).2.2 ≠ 0 then (0, 7) else if (gots xs).2.2 ≠ 0 ∨ ((gots ys).2.2 = 0 ∧ (gots xs).1 < (gots ys).1) then (1, 0) else (0, 0)
/-- a call of Get: number and error under names -/
def GetN (xs : List Int) (n : Nat) (k : Int) : Prop := ∀ w : World, Calls Try.prog 59 #[blk xs] w fun e w' => (∃ A c l, e = .returned (.tuple #[.int .u64 (n : Int), .slice A l c, .int .i64 k])) ∧ Below w.heap.size w w'
def rGetN (xs : List Int) (n : Nat) (k : Int) : Prop := ∀ w : World, Calls Try.prog 60 #[blk xs] w fun e w' => (∃ A c l, e = .returned (.tuple #[.int .u64 (n : Int), .slice A l c, .int .i64 k])) ∧ Below w.heap.size w w'
theorem get_n {xs : List Int} (hl : xs.length = 64) (hw : Wf8 xs) : GetN xs (gots xs).1 (gots xs).2.2 := fun w =>
  (Get_seal xs hl hw w).mono fun _ _ ⟨⟨A, c, h, _⟩, hb⟩ => ⟨⟨A, c, _, h⟩, hb⟩
theorem rget_n {xs : List Int} (hl : xs.length = 64) (hw : Wf8 xs) : rGetN xs (gots xs).1 (gots xs).2.2 := fun w =>
  (rGet_seal xs hl hw w).mono fun _ _ ⟨⟨A, c, h, _⟩, hb⟩ => ⟨⟨A, c, _, h⟩, hb⟩
theorem gots_lt {xs : List Int} (hw : Wf8 xs) : (gots xs).1 < 18446744073709551616 := by
  unfold gots
  split
  · decide
  · split
    · decide
    · exact first_lt hw
set_option maxRecDepth 100000 in
set_option maxHeartbeats 2000000 in
theorem Newest_any (xs ys : List Int) (hx : xs.length = 64) (hwx : Wf8 xs) (hy : ys.length = 64) (hwy : Wf8 ys) (w : World) :
    Calls Try.prog 61 #[blk xs, blk ys] w fun e w' => e = .returned (.tuple #[.int .i64 (news xs ys).1, .int .i64 (news xs ys).2]) ∧ Below w.heap.size w w' := by
  have HB := Lib.hid (Below.refl w.heap.size w)
  have HX := Lib.hid hx
  have HY := Lib.hid hy
  obtain ⟨n, hn⟩ : ∃ n, n = (gots xs).1 := ⟨_, rfl⟩
  obtain ⟨m, hm⟩ : ∃ m, m = (gots ys).1 := ⟨_, rfl⟩
  obtain ⟨e, he⟩ : ∃ e, e = (gots xs).2.2 := ⟨_, rfl⟩
  obtain ⟨f, hf⟩ : ∃ f, f = (gots ys).2.2 := ⟨_, rfl⟩
  have nl : n < 18446744073709551616 := by rw [hn]; exact gots_lt hwx
  have ml : m < 18446744073709551616 := by rw [hm]; exact gots_lt hwy
  have P1 := Lib.hid (show GetN xs n e from by rw [hn, he]; exact get_n hx hwx)
  have P2 := Lib.hid (show GetN ys m f from by rw [hm, hf]; exact get_n hy hwy)
  rcases (by omega : (e ≠ 0 ∧ f ≠ 0) ∨ (e ≠ 0 ∧ f = 0) ∨ (e = 0 ∧ f = 0 ∧ n < m) ∨ (e = 0 ∧ f = 0 ∧ ¬ n < m) ∨ (e = 0 ∧ f ≠ 0)) with ⟨h1, h2⟩ | ⟨h1, h2⟩ | ⟨h1, h2, h3⟩ | ⟨h1, h2, h3⟩ | ⟨h1, h2⟩
  · have HG := Lib.hid (show news xs ys = (0, 7) from if_pos ⟨by rw [← he]; exact h1, by rw [← hf]; exact h2⟩)
    have e1 : (e != 0) = true := by simpa using h1
    have f1 : (f != 0) = true := by simpa using h2
    clear hn hm he hf h1 h2 hx hy hwx hwy
    go_enter Try.func61, Try.ntmps61
    go_wp2_with (first
      | (refine blkBox rfl (.tmp 0) rfl rfl HX.out ?_; intro w1 hk1 hb1 hz1; have K := Lib.hid hk1; replace HB := Lib.hid (below_ext HB.out hb1); clear hk1 hb1)
      | (refine blkBox rfl (.tmp 1) rfl rfl HY.out ?_; intro w2 hk1 hb1 hz2; have K2 := Lib.hid hk1; replace K := Lib.hid (K.out.below hb1); replace HB := Lib.hid (below_ext HB.out hb1); clear hk1 hb1)
      | (refine blkLoad rfl (.tmp 2) rfl K.out rfl ?_)
      | (refine blkLoad rfl (.tmp 3) rfl K2.out rfl ?_)
      | (go_at_call_of 59 (blk xs); refine (P1.out _).mono ?_; rintro e w3 ⟨⟨A3, c3, l3, rfl⟩, hb⟩; replace K := Lib.hid (K.out.below hb); replace K2 := Lib.hid (K2.out.below hb); replace HB := Lib.hid (below_ext HB.out hb); clear hb)
      | (go_at_call_of 59 (blk ys); refine (P2.out _).mono ?_; rintro e w4 ⟨⟨A4, c4, l4, rfl⟩, hb⟩; replace K := Lib.hid (K.out.below hb); replace K2 := Lib.hid (K2.out.below hb); replace HB := Lib.hid (below_ext HB.out hb); clear hb))
    go_ret2
    exact ⟨by rw [HG.out]; rfl, HB.out⟩
  · have HG := Lib.hid (show news xs ys = (1, 0) by rw [news, if_neg (by rw [← hf]; omega), if_pos (.inl (by rw [← he]; exact h1))])
    have e1 : (e != 0) = true := by simpa using h1
    have f1 : (f != 0) = false := by simp [h2]
    have f2 : (f == 0) = true := by simp [h2]
    clear hn hm he hf h1 h2 hx hy hwx hwy
    go_enter Try.func61, Try.ntmps61
    go_wp2_with (first
      | (refine blkBox rfl (.tmp 0) rfl rfl HX.out ?_; intro w1 hk1 hb1 hz1; have K := Lib.hid hk1; replace HB := Lib.hid (below_ext HB.out hb1); clear hk1 hb1)
      | (refine blkBox rfl (.tmp 1) rfl rfl HY.out ?_; intro w2 hk1 hb1 hz2; have K2 := Lib.hid hk1; replace K := Lib.hid (K.out.below hb1); replace HB := Lib.hid (below_ext HB.out hb1); clear hk1 hb1)
      | (refine blkLoad rfl (.tmp 2) rfl K.out rfl ?_)
      | (refine blkLoad rfl (.tmp 3) rfl K2.out rfl ?_)
      | (go_at_call_of 59 (blk xs); refine (P1.out _).mono ?_; rintro e w3 ⟨⟨A3, c3, l3, rfl⟩, hb⟩; replace K := Lib.hid (K.out.below hb); replace K2 := Lib.hid (K2.out.below hb); replace HB := Lib.hid (below_ext HB.out hb); clear hb)
      | (go_at_call_of 59 (blk ys); refine (P2.out _).mono ?_; rintro e w4 ⟨⟨A4, c4, l4, rfl⟩, hb⟩; replace K := Lib.hid (K.out.below hb); replace K2 := Lib.hid (K2.out.below hb); replace HB := Lib.hid (below_ext HB.out hb); clear hb))
    go_ret2
    exact ⟨by rw [HG.out]; rfl, HB.out⟩
  · have HG := Lib.hid (show news xs ys = (1, 0) by rw [news, if_neg (by rw [← hf]; omega), if_pos (.inr ⟨by rw [← hf]; exact h2, by rw [← hn, ← hm]; exact h3⟩)])
    have e1 : (e != 0) = false := by simp [h1]
    have f1 : (f != 0) = false := by simp [h2]
    have f2 : (f == 0) = true := by simp [h2]
    clear hn hm he hf h1 h2 hx hy hwx hwy
    go_enter Try.func61, Try.ntmps61
    go_wp2_with (first
      | (refine blkBox rfl (.tmp 0) rfl rfl HX.out ?_; intro w1 hk1 hb1 hz1; have K := Lib.hid hk1; replace HB := Lib.hid (below_ext HB.out hb1); clear hk1 hb1)
      | (refine blkBox rfl (.tmp 1) rfl rfl HY.out ?_; intro w2 hk1 hb1 hz2; have K2 := Lib.hid hk1; replace K := Lib.hid (K.out.below hb1); replace HB := Lib.hid (below_ext HB.out hb1); clear hk1 hb1)
      | (refine blkLoad rfl (.tmp 2) rfl K.out rfl ?_)
      | (refine blkLoad rfl (.tmp 3) rfl K2.out rfl ?_)
      | (go_at_call_of 59 (blk xs); refine (P1.out _).mono ?_; rintro e w3 ⟨⟨A3, c3, l3, rfl⟩, hb⟩; replace K := Lib.hid (K.out.below hb); replace K2 := Lib.hid (K2.out.below hb); replace HB := Lib.hid (below_ext HB.out hb); clear hb)
      | (go_at_call_of 59 (blk ys); refine (P2.out _).mono ?_; rintro e w4 ⟨⟨A4, c4, l4, rfl⟩, hb⟩; replace K := Lib.hid (K.out.below hb); replace K2 := Lib.hid (K2.out.below hb); replace HB := Lib.hid (below_ext HB.out hb); clear hb))
    go_ret2
    exact ⟨by rw [HG.out]; rfl, HB.out⟩
  · have HG := Lib.hid (show news xs ys = (0, 0) by rw [news, if_neg (by rw [← hf]; omega), if_neg (by rw [← he, ← hf, ← hn, ← hm]; omega)])
    have e1 : (e != 0) = false := by simp [h1]
    have f1 : (f != 0) = false := by simp [h2]
    have f2 : (f == 0) = true := by simp [h2]
    have h4 : m ≤ n := by omega
    clear hn hm he hf h1 h2 hx hy hwx hwy h3
    go_enter Try.func61, Try.ntmps61
    go_wp2_with (first
      | (refine blkBox rfl (.tmp 0) rfl rfl HX.out ?_; intro w1 hk1 hb1 hz1; have K := Lib.hid hk1; replace HB := Lib.hid (below_ext HB.out hb1); clear hk1 hb1)
      | (refine blkBox rfl (.tmp 1) rfl rfl HY.out ?_; intro w2 hk1 hb1 hz2; have K2 := Lib.hid hk1; replace K := Lib.hid (K.out.below hb1); replace HB := Lib.hid (below_ext HB.out hb1); clear hk1 hb1)
      | (refine blkLoad rfl (.tmp 2) rfl K.out rfl ?_)
      | (refine blkLoad rfl (.tmp 3) rfl K2.out rfl ?_)
      | (go_at_call_of 59 (blk xs); refine (P1.out _).mono ?_; rintro e w3 ⟨⟨A3, c3, l3, rfl⟩, hb⟩; replace K := Lib.hid (K.out.below hb); replace K2 := Lib.hid (K2.out.below hb); replace HB := Lib.hid (below_ext HB.out hb); clear hb)
      | (go_at_call_of 59 (blk ys); refine (P2.out _).mono ?_; rintro e w4 ⟨⟨A4, c4, l4, rfl⟩, hb⟩; replace K := Lib.hid (K.out.below hb); replace K2 := Lib.hid (K2.out.below hb); replace HB := Lib.hid (below_ext HB.out hb); clear hb))
    go_ret2
    exact ⟨by rw [HG.out]; rfl, HB.out⟩
  · have HG := Lib.hid (show news xs ys = (0, 0) by rw [news, if_neg (by rw [← he]; omega), if_neg (by rw [← he, ← hf]; omega)])
    have e1 : (e != 0) = false := by simp [h1]
    have f1 : (f != 0) = true := by simpa using h2
    have f2 : (f == 0) = false := by simpa using h2
    clear hn hm he hf h1 h2 hx hy hwx hwy
    go_enter Try.func61, Try.ntmps61
    go_wp2_with (first
      | (refine blkBox rfl (.tmp 0) rfl rfl HX.out ?_; intro w1 hk1 hb1 hz1; have K := Lib.hid hk1; replace HB := Lib.hid (below_ext HB.out hb1); clear hk1 hb1)
      | (refine blkBox rfl (.tmp 1) rfl rfl HY.out ?_; intro w2 hk1 hb1 hz2; have K2 := Lib.hid hk1; replace K := Lib.hid (K.out.below hb1); replace HB := Lib.hid (below_ext HB.out hb1); clear hk1 hb1)
      | (refine blkLoad rfl (.tmp 2) rfl K.out rfl ?_)
      | (refine blkLoad rfl (.tmp 3) rfl K2.out rfl ?_)
      | (go_at_call_of 59 (blk xs); refine (P1.out _).mono ?_; rintro e w3 ⟨⟨A3, c3, l3, rfl⟩, hb⟩; replace K := Lib.hid (K.out.below hb); replace K2 := Lib.hid (K2.out.below hb); replace HB := Lib.hid (below_ext HB.out hb); clear hb)
      | (go_at_call_of 59 (blk ys); refine (P2.out _).mono ?_; rintro e w4 ⟨⟨A4, c4, l4, rfl⟩, hb⟩; replace K := Lib.hid (K.out.below hb); replace K2 := Lib.hid (K2.out.below hb); replace HB := Lib.hid (below_ext HB.out hb); clear hb))
    go_ret2
    exact ⟨by rw [HG.out]; rfl, HB.out⟩
set_option maxRecDepth 100000 in
set_option maxHeartbeats 2000000 in
theorem rNewest_any (xs ys : List Int) (hx : xs.length = 64) (hwx : Wf8 xs) (hy : ys.length = 64) (hwy : Wf8 ys) (w : World) :
    Calls Try.prog 62 #[blk xs, blk ys] w fun e w' => e = .returned (.tuple #[.int .i64 (news xs ys).1, .int .i64 (news xs ys).2]) ∧ Below w.heap.size w w' := by
  have HB := Lib.hid (Below.refl w.heap.size w)
  have HX := Lib.hid hx
  have HY := Lib.hid hy
  obtain ⟨n, hn⟩ : ∃ n, n = (gots xs).1 := ⟨_, rfl⟩
  obtain ⟨m, hm⟩ : ∃ m, m = (gots ys).1 := ⟨_, rfl⟩
  obtain ⟨e, he⟩ : ∃ e, e = (gots xs).2.2 := ⟨_, rfl⟩
  obtain ⟨f, hf⟩ : ∃ f, f = (gots ys).2.2 := ⟨_, rfl⟩
  have nl : n < 18446744073709551616 := by rw [hn]; exact gots_lt hwx
  have ml : m < 18446744073709551616 := by rw [hm]; exact gots_lt hwy
  have P1 := Lib.hid (show rGetN xs n e from by rw [hn, he]; exact rget_n hx hwx)
  have P2 := Lib.hid (show rGetN ys m f from by rw [hm, hf]; exact rget_n hy hwy)
  rcases (by omega : (e ≠ 0 ∧ f ≠ 0) ∨ (e ≠ 0 ∧ f = 0) ∨ (e = 0 ∧ f = 0 ∧ n < m) ∨ (e = 0 ∧ f = 0 ∧ ¬ n < m) ∨ (e = 0 ∧ f ≠ 0)) with ⟨h1, h2⟩ | ⟨h1, h2⟩ | ⟨h1, h2, h3⟩ | ⟨h1, h2, h3⟩ | ⟨h1, h2⟩
  · have HG := Lib.hid (show news xs ys = (0, 7) from if_pos ⟨by rw [← he]; exact h1, by rw [← hf]; exact h2⟩)
    have e1 : (e != 0) = true := by simpa using h1
    have f1 : (f != 0) = true := by simpa using h2
    clear hn hm he hf h1 h2 hx hy hwx hwy
    go_enter Try.func62, Try.ntmps62
    go_wp2_with (first
      | (refine blkBox rfl (.tmp 0) rfl rfl HX.out ?_; intro w1 hk1 hb1 hz1; have K := Lib.hid hk1; replace HB := Lib.hid (below_ext HB.out hb1); clear hk1 hb1)
      | (refine blkBox rfl (.tmp 1) rfl rfl HY.out ?_; intro w2 hk1 hb1 hz2; have K2 := Lib.hid hk1; replace K := Lib.hid (K.out.below hb1); replace HB := Lib.hid (below_ext HB.out hb1); clear hk1 hb1)
      | (refine blkLoad rfl (.tmp 2) rfl K.out rfl ?_)
      | (refine blkLoad rfl (.tmp 3) rfl K2.out rfl ?_)
      | (go_at_call_of 60 (blk xs); refine (P1.out _).mono ?_; rintro e w3 ⟨⟨A3, c3, l3, rfl⟩, hb⟩; replace K := Lib.hid (K.out.below hb); replace K2 := Lib.hid (K2.out.below hb); replace HB := Lib.hid (below_ext HB.out hb); clear hb)
      | (go_at_call_of 60 (blk ys); refine (P2.out _).mono ?_; rintro e w4 ⟨⟨A4, c4, l4, rfl⟩, hb⟩; replace K := Lib.hid (K.out.below hb); replace K2 := Lib.hid (K2.out.below hb); replace HB := Lib.hid (below_ext HB.out hb); clear hb))
    go_ret2
    exact ⟨by rw [HG.out]; rfl, HB.out⟩
  · have HG := Lib.hid (show news xs ys = (1, 0) by rw [news, if_neg (by rw [← hf]; omega), if_pos (.inl (by rw [← he]; exact h1))])
    have e1 : (e != 0) = true := by simpa using h1
    have f1 : (f != 0) = false := by simp [h2]
    have f2 : (f == 0) = true := by simp [h2]
    clear hn hm he hf h1 h2 hx hy hwx hwy
    go_enter Try.func62, Try.ntmps62
    go_wp2_with (first
      | (refine blkBox rfl (.tmp 0) rfl rfl HX.out ?_; intro w1 hk1 hb1 hz1; have K := Lib.hid hk1; replace HB := Lib.hid (below_ext HB.out hb1); clear hk1 hb1)
      | (refine blkBox rfl (.tmp 1) rfl rfl HY.out ?_; intro w2 hk1 hb1 hz2; have K2 := Lib.hid hk1; replace K := Lib.hid (K.out.below hb1); replace HB := Lib.hid (below_ext HB.out hb1); clear hk1 hb1)
      | (refine blkLoad rfl (.tmp 2) rfl K.out rfl ?_)
      | (refine blkLoad rfl (.tmp 3) rfl K2.out rfl ?_)
      | (go_at_call_of 60 (blk xs); refine (P1.out _).mono ?_; rintro e w3 ⟨⟨A3, c3, l3, rfl⟩, hb⟩; replace K := Lib.hid (K.out.below hb); replace K2 := Lib.hid (K2.out.below hb); replace HB := Lib.hid (below_ext HB.out hb); clear hb)
      | (go_at_call_of 60 (blk ys); refine (P2.out _).mono ?_; rintro e w4 ⟨⟨A4, c4, l4, rfl⟩, hb⟩; replace K := Lib.hid (K.out.below hb); replace K2 := Lib.hid (K2.out.below hb); replace HB := Lib.hid (below_ext HB.out hb); clear hb))
    go_ret2
    exact ⟨by rw [HG.out]; rfl, HB.out⟩
  · have HG := Lib.hid (show news xs ys = (1, 0) by rw [news, if_neg (by rw [← hf]; omega), if_pos (.inr ⟨by rw [← hf]; exact h2, by rw [← hn, ← hm]; exact h3⟩)])
    have e1 : (e != 0) = false := by simp [h1]
    have f1 : (f != 0) = false := by simp [h2]
    have f2 : (f == 0) = true := by simp [h2]
    clear hn hm he hf h1 h2 hx hy hwx hwy
    go_enter Try.func62, Try.ntmps62
    go_wp2_with (first
      | (refine blkBox rfl (.tmp 0) rfl rfl HX.out ?_; intro w1 hk1 hb1 hz1; have K := Lib.hid hk1; replace HB := Lib.hid (below_ext HB.out hb1); clear hk1 hb1)
      | (refine blkBox rfl (.tmp 1) rfl rfl HY.out ?_; intro w2 hk1 hb1 hz2; have K2 := Lib.hid hk1; replace K := Lib.hid (K.out.below hb1); replace HB := Lib.hid (below_ext HB.out hb1); clear hk1 hb1)
      | (refine blkLoad rfl (.tmp 2) rfl K.out rfl ?_)
      | (refine blkLoad rfl (.tmp 3) rfl K2.out rfl ?_)
      | (go_at_call_of 60 (blk xs); refine (P1.out _).mono ?_; rintro e w3 ⟨⟨A3, c3, l3, rfl⟩, hb⟩; replace K := Lib.hid (K.out.below hb); replace K2 := Lib.hid (K2.out.below hb); replace HB := Lib.hid (below_ext HB.out hb); clear hb)
      | (go_at_call_of 60 (blk ys); refine (P2.out _).mono ?_; rintro e w4 ⟨⟨A4, c4, l4, rfl⟩, hb⟩; replace K := Lib.hid (K.out.below hb); replace K2 := Lib.hid (K2.out.below hb); replace HB := Lib.hid (below_ext HB.out hb); clear hb))
    go_ret2
    exact ⟨by rw [HG.out]; rfl, HB.out⟩
  · have HG := Lib.hid (show news xs ys = (0, 0) by rw [news, if_neg (by rw [← hf]; omega), if_neg (by rw [← he, ← hf, ← hn, ← hm]; omega)])
    have e1 : (e != 0) = false := by simp [h1]
    have f1 : (f != 0) = false := by simp [h2]
    have f2 : (f == 0) = true := by simp [h2]
    have h4 : m ≤ n := by omega
    clear hn hm he hf h1 h2 hx hy hwx hwy h3
    go_enter Try.func62, Try.ntmps62
    go_wp2_with (first
      | (refine blkBox rfl (.tmp 0) rfl rfl HX.out ?_; intro w1 hk1 hb1 hz1; have K := Lib.hid hk1; replace HB := Lib.hid (below_ext HB.out hb1); clear hk1 hb1)
      | (refine blkBox rfl (.tmp 1) rfl rfl HY.out ?_; intro w2 hk1 hb1 hz2; have K2 := Lib.hid hk1; replace K := Lib.hid (K.out.below hb1); replace HB := Lib.hid (below_ext HB.out hb1); clear hk1 hb1)
      | (refine blkLoad rfl (.tmp 2) rfl K.out rfl ?_)
      | (refine blkLoad rfl (.tmp 3) rfl K2.out rfl ?_)
      | (go_at_call_of 60 (blk xs); refine (P1.out _).mono ?_; rintro e w3 ⟨⟨A3, c3, l3, rfl⟩, hb⟩; replace K := Lib.hid (K.out.below hb); replace K2 := Lib.hid (K2.out.below hb); replace HB := Lib.hid (below_ext HB.out hb); clear hb)
      | (go_at_call_of 60 (blk ys); refine (P2.out _).mono ?_; rintro e w4 ⟨⟨A4, c4, l4, rfl⟩, hb⟩; replace K := Lib.hid (K.out.below hb); replace K2 := Lib.hid (K2.out.below hb); replace HB := Lib.hid (below_ext HB.out hb); clear hb))
    go_ret2
    exact ⟨by rw [HG.out]; rfl, HB.out⟩
  · have HG := Lib.hid (show news xs ys = (0, 0) by rw [news, if_neg (by rw [← he]; omega), if_neg (by rw [← he, ← hf]; omega)])
    have e1 : (e != 0) = false := by simp [h1]
    have f1 : (f != 0) = true := by simpa using h2
    have f2 : (f == 0) = false := by simpa using h2
    clear hn hm he hf h1 h2 hx hy hwx hwy
    go_enter Try.func62, Try.ntmps62
    go_wp2_with (first
      | (refine blkBox rfl (.tmp 0) rfl rfl HX.out ?_; intro w1 hk1 hb1 hz1; have K := Lib.hid hk1; replace HB := Lib.hid (below_ext HB.out hb1); clear hk1 hb1)
      | (refine blkBox rfl (.tmp 1) rfl rfl HY.out ?_; intro w2 hk1 hb1 hz2; have K2 := Lib.hid hk1; replace K := Lib.hid (K.out.below hb1); replace HB := Lib.hid (below_ext HB.out hb1); clear hk1 hb1)
      | (refine blkLoad rfl (.tmp 2) rfl K.out rfl ?_)
      | (refine blkLoad rfl (.tmp 3) rfl K2.out rfl ?_)
      | (go_at_call_of 60 (blk xs); refine (P1.out _).mono ?_; rintro e w3 ⟨⟨A3, c3, l3, rfl⟩, hb⟩; replace K := Lib.hid (K.out.below hb); replace K2 := Lib.hid (K2.out.below hb); replace HB := Lib.hid (below_ext HB.out hb); clear hb)
      | (go_at_call_of 60 (blk ys); refine (P2.out _).mono ?_; rintro e w4 ⟨⟨A4, c4, l4, rfl⟩, hb⟩; replace K := Lib.hid (K.out.below hb); replace K2 := Lib.hid (K2.out.below hb); replace HB := Lib.hid (below_ext HB.out hb); clear hb))
    go_ret2
    exact ⟨by rw [HG.out]; rfl, HB.out⟩
/-- a sector of which only the first n bytes were written -/
def torn (old now : List Int) (n : Int) : List Int := now.take (min n.toNat 64) ++ old.drop (min n.toNat 64)
theorem torn_length {old now : List Int} {n : Int} (ho : old.length = 64) (hn : now.length = 64) : (torn old now n).length = 64 := by
  simp [torn, ho, hn]; omega
theorem torn_wf {old now : List Int} {n : Int} (ho : Wf8 old) (hn : Wf8 now) : Wf8 (torn old now n) := wf_append (wf_take hn _) (wf_drop ho _)
theorem torn_next {old now : List Int} (q : Nat) (hq : q < 64) (ho : old.length = 64) (hn : now.length = 64) : (now.take q ++ old.drop q).set q (rd now (q : Int)) = now.take (q + 1) ++ old.drop (q + 1) := by
  rw [List.set_append_right _ _ (by simp; omega), List.length_take, Nat.min_eq_left (by omega), Nat.sub_self, List.drop_eq_getElem_cons (by omega : q < old.length), List.set_cons_zero, List.take_succ_eq_append_getElem (by omega : q < now.length), List.append_assoc, List.singleton_append, rd, Int.toNat_natCast, List.getD_eq_getElem?_getD, List.getElem?_eq_getElem (by omega : q < now.length), Option.getD_some]
set_option maxRecDepth 100000 in
set_option maxHeartbeats 2000000 in
theorem Torn_any (xs ys : List Int) (hx : xs.length = 64) (hy : ys.length = 64) (n : Int) (hn : -9223372036854775808 ≤ n ∧ n ≤ 9223372036854775807) (w : World) :
    Calls Try.prog 63 #[blk xs, blk ys, .int .i64 n] w fun e w' => e = .returned (blk (torn xs ys n)) ∧ Below w.heap.size w w' := by
  have HB := Lib.hid (Below.refl w.heap.size w)
  have HX := Lib.hid hx
  have HY := Lib.hid hy
  obtain ⟨n1, n2⟩ := hn
  obtain ⟨M, hM⟩ : ∃ M, M = min n.toNat 64 := ⟨_, rfl⟩
  have hM1 : M ≤ 64 := by omega
  have hM2 : ∀ q : Nat, q < M → (q : Int) < 64 ∧ (q : Int) < n := fun q hq => by omega
  have hM3 : M = 64 ∨ (M < 64 ∧ n ≤ (M : Int)) := by omega
  have HT := Lib.hid (show torn xs ys n = ys.take M ++ xs.drop M by rw [torn, hM])
  have HM2 := Lib.hid hM2
  clear hM hM2 hx hy
  go_enter Try.func63, Try.ntmps63
  go_wp2_with (first
    | (refine blkBox rfl (.tmp 0) rfl rfl HX.out ?_; intro w1 hk1 hb1 hz1; have K := Lib.hid hk1; replace HB := Lib.hid (below_ext HB.out hb1); clear hk1 hb1)
    | (refine blkBox rfl (.tmp 1) rfl rfl HY.out ?_; intro w2 hk1 hb1 hz2; have K2 := Lib.hid hk1; replace K := Lib.hid (K.out.below hb1); replace HB := Lib.hid (below_ext HB.out hb1); clear hk1 hb1)
    | (have _t := tokA; refine blkAlloc rfl rfl ?_; intro w4 hk1 hb1 hz4; have K4 := Lib.hid hk1; replace K := Lib.hid (K.out.below hb1); replace K2 := Lib.hid (K2.out.below hb1); replace K3 := Lib.hid (K3.out.below hb1); replace HB := Lib.hid (below_ext HB.out hb1); have HZ := Lib.hid HB.out.size; clear hk1 hb1 _t tokA)
    | (refine blkAlloc rfl rfl ?_; intro w3 hk1 hb1 hz3; have K3 := Lib.hid hk1; replace K := Lib.hid (K.out.below hb1); replace K2 := Lib.hid (K2.out.below hb1); replace HB := Lib.hid (below_ext HB.out hb1); have tokA : True := trivial; clear hk1 hb1)
    | (refine blkLoad rfl (.tmp 3) rfl K.out rfl ?_)
    | (refine blkStore rfl (.tmp 7) (.tmp 9) rfl K4.out rfl rfl HX.out ?_; intro w5 hk hg; replace HB := Lib.hid (below_at HB.out hg (by omega) K4.out.lt); replace K2 := Lib.hid (K2.out.grown hg (by omega)); replace K3 := Lib.hid (K3.out.grown hg (by omega)); replace K4 := Lib.hid hk; clear hk hg K))
  go_loopw [8] (fun i wr => ∃ q : Nat, q ≤ M ∧ i = .int .i64 q ∧ Hid (Blk wr w3.heap.size (ys.take q ++ xs.drop q)) ∧ Hid (Blk wr w1.heap.size ys) ∧ Hid (Blk wr w2.heap.size zeros) ∧ Hid (Below w.heap.size w wr)) (fun i _ => 64 - (intOf i).toNat)
  case atStart => exact ⟨0, by omega, rfl, Lib.hid (by simpa using K4.out), K2, K3, HB⟩
  case round =>
    clear K2 K3 K4 HB
    obtain ⟨q, hq, rfl, K4, K2, K3, HB⟩ := hrel
    by_cases hlt : q < M
    · obtain ⟨l1, l2⟩ := HM2.out q hlt
      have HN := Lib.hid (torn_next q (by omega) HX.out HY.out)
      have q64 : q < 64 := by omega
      go_wp2_with (first
        | (refine rowCell rfl _ (.tmp 21) rfl (K2.out.cell q q64) rfl agg_u8 ?_)
        | (refine blkSet rfl (.tmp 23) (.tmp 22) rfl K4.out q q64 rfl _ rfl ?_; intro w6 hk hg; rw [HN.out] at hk; have B6 := Lib.hid (below_at HB.out hg (by omega) K4.out.lt); have N2 := Lib.hid (K2.out.grown hg (by omega)); have N3 := Lib.hid (K3.out.grown hg (by omega)); have N4 := Lib.hid hk; clear hk hg))
      go_roundw
      case rel => exact ⟨q + 1, by omega, by go_num, N4, N2, N3, B6⟩
      case measure => simp [intOf]; omega
    · obtain rfl : q = M := by omega
      rw [← HT.out] at K4
      have HTl := Lib.hid (torn_length HX.out HY.out : (torn xs ys n).length = 64)
      rcases hM3 with rfl | ⟨h1, h2⟩
      all_goals
        go_wp2_with (first
          | (refine blkLoad rfl (.tmp 7) rfl K4.out rfl ?_)
          | (refine blkStore rfl (.tmp 6) (.tmp 24) rfl K3.out rfl rfl HTl.out ?_; intro w7 hk hg; replace HB := Lib.hid (below_at HB.out hg (by omega) K3.out.lt); replace K3 := Lib.hid hk; clear hk hg))
        exact bodyPost_ret (v := blk (torn xs ys n)) (ret_blk1 rfl _ _ K3.out rfl) rfl ⟨rfl, HB.out⟩
end Go.Proofs.Ytdchcggllcgokaa.E
