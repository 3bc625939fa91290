/-
  Sealed sectors: what is put is got; ashlarlaw07.lives. ashlarlaw07.SealPuts, SealNewest: the walks. Sealed sectors: one byte changed; torn: plain laws.
-/
import Derived.Test.YtdchcggllcgokaaSpK
import Derived.Test.YtdchcggllcgokaaSpC
namespace Go.Proofs.Ytdchcggllcgokaa.E
open Go.RowKit Go.Proofs.Ytdchcggllcgokaa.L Go.Proofs.Ytdchcggllcgokaa.U Go.Proofs.Ytdchcggllcgokaa.R Go.Proofs.YtdchcggllcgokaaW.PrintWords
set_option linter.unusedVariables false
set_option linter.unusedSimpArgs false

theorem first_sealed {n : Nat} {ys : List Int} (hn : n < 18446744073709551616) : first (sealed n ys) = n := by
  have h := get_put n 8 (by omega) [] ((ys ++ List.replicate (44 - ys.length) 0) ++ (putb (crcs (front n ys)) 4 ++ putb n 8))
  rw [first, sealed, front, List.append_assoc]
  exact h
theorem last_sealed {n : Nat} {ys : List Int} (hn : n < 18446744073709551616) (hl : ys.length ≤ 44) : last (sealed n ys) = n := by
  have h := get_put n 8 (by omega) (front n ys ++ putb (crcs (front n ys)) 4) []
  rw [List.length_append, front_length hl, putb_length, List.append_nil, List.append_assoc] at h
  exact h
theorem told_sealed {n : Nat} {ys : List Int} (hl : ys.length ≤ 44) : told (sealed n ys) = crcs (front n ys) := by
  have h := get_put (crcs (front n ys)) 4 (by have := crcs_lt (front n ys); omega) (front n ys) (putb n 8)
  rw [front_length hl] at h
  exact h
theorem take_sealed {n : Nat} {ys : List Int} (hl : ys.length ≤ 44) : (sealed n ys).take 52 = front n ys := by
  have h := List.take_left (l₁ := front n ys) (l₂ := putb (crcs (front n ys)) 4 ++ putb n 8)
  rwa [front_length hl] at h
theorem inner_sealed {n : Nat} {ys : List Int} (hl : ys.length ≤ 44) : inner (sealed n ys) = ys ++ Z (44 - ys.length) := by
  have h1 : (putb n 8 ++ ((ys ++ Z (44 - ys.length)) ++ (putb (crcs (front n ys)) 4 ++ putb n 8))).drop 8 = (ys ++ Z (44 - ys.length)) ++ (putb (crcs (front n ys)) 4 ++ putb n 8) := by
    have h := List.drop_left (l₁ := putb n 8) (l₂ := (ys ++ Z (44 - ys.length)) ++ (putb (crcs (front n ys)) 4 ++ putb n 8))
    rwa [putb_length] at h
  have h2 : ((ys ++ Z (44 - ys.length)) ++ (putb (crcs (front n ys)) 4 ++ putb n 8)).take 44 = ys ++ Z (44 - ys.length) := by
    have h := List.take_left (l₁ := ys ++ Z (44 - ys.length)) (l₂ := putb (crcs (front n ys)) 4 ++ putb n 8)
    rwa [List.length_append, Z_length, show ys.length + (44 - ys.length) = 44 by omega] at h
  have h3 : sealed n ys = putb n 8 ++ ((ys ++ Z (44 - ys.length)) ++ (putb (crcs (front n ys)) 4 ++ putb n 8)) := by
    rw [sealed]
    conv => lhs; rw [front]
    rw [List.append_assoc]; rfl
  rw [inner, h3, h1, h2]
/-- what is put is got -/
theorem gots_sealed {n : Nat} {ys : List Int} (h0 : n ≠ 0) (hn : n < 18446744073709551616) (hl : ys.length ≤ 44) : gots (sealed n ys) = (n, ys ++ Z (44 - ys.length), 0) := by
  rw [gots, first_sealed hn, last_sealed hn hl, told_sealed hl, take_sealed hl, inner_sealed hl, if_neg (by omega), if_neg (by simp)]
theorem gots_zeros : gots zeros = (0, [], 5) := by
  have h : first zeros = 0 := by decide +kernel
  exact if_pos (.inl h)
theorem news_zeros : news zeros zeros = (0, 7) := by
  rw [news, gots_zeros]; rfl
theorem z_length : Z 44 = List.replicate 44 0 := rfl

def PutS (n : Nat) (k : Int) (A : Option Addr) (c : Nat) (ys S : List Int) : Prop := ∀ w : World, ReadsInt w .u8 A ys.length ys → Calls Try.prog 56 #[.int .u64 (n : Int), .slice A ys.length c] w fun e w' => e = .returned (.tuple #[blk S, .int .i64 k]) ∧ Below w.heap.size w w'
theorem put_s {n : Nat} {k : Int} {A : Option Addr} {c : Nat} {ys S : List Int} (hn : n < 18446744073709551616) (hw : Wf8 ys) (h : seals n ys = (S, k)) : PutS n k A c ys S := fun w hr => by
  have h2 := Put_seal n hn A c ys hw w hr
  rw [h] at h2
  exact h2
theorem nil_wf : Wf8 [] := fun x hx => by cases hx
theorem nil_reads (w : World) : ReadsInt w .u8 none 0 [] := ⟨rfl, by decide, fun h => absurd h (by decide)⟩
set_option maxRecDepth 100000 in
set_option maxHeartbeats 2000000 in
theorem lives_any (w : World) : Calls Try.prog 58 #[] w fun e w' => e = .returned (.bool true) ∧ Below w.heap.size w w' := by
  have HB := Lib.hid (Below.refl w.heap.size w)
  have tok0 : True := trivial
  obtain ⟨S5, h5⟩ : ∃ S, S = sealed 5 [] := ⟨_, rfl⟩
  obtain ⟨S6, h6⟩ : ∃ S, S = sealed 6 [] := ⟨_, rfl⟩
  have l5 : S5.length = 64 := by rw [h5]; exact sealed_length (by decide)
  have l6 : S6.length = 64 := by rw [h6]; exact sealed_length (by decide)
  have w5 : Wf8 S5 := by rw [h5]; exact sealed_wf 5 nil_wf
  have w6 : Wf8 S6 := by rw [h6]; exact sealed_wf 6 nil_wf
  have g5 : gots S5 = (5, Z 44, 0) := by rw [h5]; exact gots_sealed (by decide) (by decide) (by decide)
  have g6 : gots S6 = (6, Z 44, 0) := by rw [h6]; exact gots_sealed (by decide) (by decide) (by decide)
  have H5 := Lib.hid l5
  have H6 := Lib.hid l6
  have P1 : Hid (∀ w : World, Calls Try.prog 56 #[.int .u64 5, .slice none 0 0] w fun e w' => e = .returned (.tuple #[blk S5, .int .i64 0]) ∧ Below w.heap.size w w') := Lib.hid fun w =>
    put_s (n := 5) (by decide) nil_wf (by rw [seals_ok (by decide) (by decide), h5]) w (nil_reads w)
  have P2 : Hid (∀ w : World, Calls Try.prog 56 #[.int .u64 6, .slice none 0 0] w fun e w' => e = .returned (.tuple #[blk S6, .int .i64 0]) ∧ Below w.heap.size w w') := Lib.hid fun w =>
    put_s (n := 6) (by decide) nil_wf (by rw [seals_ok (by decide) (by decide), h6]) w (nil_reads w)
  have P3 : Hid (∀ w : World, Calls Try.prog 59 #[blk S5] w fun e w' => (∃ A c, e = .returned (.tuple #[.int .u64 5, .slice A 44 c, .int .i64 0])) ∧ Below w.heap.size w w') := Lib.hid fun w => by
    have h := Get_seal S5 l5 w5 w
    simp only [GotF, g5] at h
    exact h.mono fun _ _ ⟨⟨A, c, h1, _⟩, h2⟩ => ⟨⟨A, c, h1⟩, h2⟩
  have P4 : Hid (∀ w : World, Calls Try.prog 59 #[blk zeros] w fun e w' => (∃ A c, e = .returned (.tuple #[.int .u64 0, .slice A 0 c, .int .i64 5])) ∧ Below w.heap.size w w') := Lib.hid fun w => by
    have h := Get_seal zeros zeros_length (zeros_wf 64) w
    simp only [GotF, gots_zeros] at h
    exact h.mono fun _ _ ⟨⟨A, c, h1, _⟩, h2⟩ => ⟨⟨A, c, h1⟩, h2⟩
  have P5 : Hid (∀ w : World, Calls Try.prog 61 #[blk S5, blk S6] w fun e w' => e = .returned (.tuple #[.int .i64 1, .int .i64 0]) ∧ Below w.heap.size w w') := Lib.hid fun w => by
    have h := Newest_any S5 S6 l5 w5 l6 w6 w
    rw [show news S5 S6 = (1, 0) by rw [news, g5, g6]; rfl] at h
    exact h
  have P6 : Hid (∀ w : World, Calls Try.prog 61 #[blk zeros, blk zeros] w fun e w' => e = .returned (.tuple #[.int .i64 0, .int .i64 7]) ∧ Below w.heap.size w w') := Lib.hid fun w => by
    have h := Newest_any zeros zeros zeros_length (zeros_wf 64) zeros_length (zeros_wf 64) w
    rw [news_zeros] at h
    exact h
  have C0 : Hid (∀ (W : World) (g : Nat), Blk W g S5 → W.cell? ⟨g, 0, none⟩ = some (.int .u8 5)) := Lib.hid fun W g h => by
    rw [h.cell 0 (by decide), show rd S5 ((0 : Nat) : Int) = 5 by rw [h5]; decide +kernel]
  have C56 : Hid (∀ (W : World) (g : Nat), Blk W g S5 → W.cell? ⟨g, 56, none⟩ = some (.int .u8 5)) := Lib.hid fun W g h => by
    rw [h.cell 56 (by decide), show rd S5 ((56 : Nat) : Int) = 5 by rw [h5]; decide +kernel]
  clear h5 h6 l5 l6 w5 w6 g5 g6
  go_enter Try.func58, Try.ntmps58
  go_wp2_with (first
    | (go_at_call_of 56 (Value.int .u64 5); refine (P1.out _).mono ?_; rintro e w1 ⟨rfl, hb1⟩; replace HB := Lib.hid (below_ext HB.out hb1); have hz1 := hb1.size; clear hb1)
    | (have _t := tok0; refine blkAlloc rfl rfl ?_; intro w2 hk hb2 hz2; replace HB := Lib.hid (below_ext HB.out hb2); have KA := Lib.hid hk; have tok1 : True := trivial; clear hk hb2 _t tok0)
    | (refine blkStore rfl (.tmp 1) (.tmp 17) rfl KA.out rfl rfl H5.out ?_; intro w3 hk hg; replace HB := Lib.hid (below_at HB.out hg (by omega) KA.out.lt); replace KA := Lib.hid hk; have hz3 := hg.size; clear hk hg)
    | (go_at_call 56; refine (P2.out _).mono ?_; rintro e w4 ⟨rfl, hb4⟩; replace KA := Lib.hid (KA.out.below hb4); replace HB := Lib.hid (below_ext HB.out hb4); have hz4 := hb4.size; clear hb4)
    | (have _t := tok1; refine blkAlloc rfl rfl ?_; intro w5 hk hb5 hz5; replace KA := Lib.hid (KA.out.below hb5); replace HB := Lib.hid (below_ext HB.out hb5); have KB := Lib.hid hk; have tok2 : True := trivial; clear hk hb5 _t tok1)
    | (refine blkStore rfl (.tmp 3) (.tmp 21) rfl KB.out rfl rfl H6.out ?_; intro w6 hk hg; replace HB := Lib.hid (below_at HB.out hg (by omega) KB.out.lt); replace KA := Lib.hid (KA.out.grown hg (by omega)); replace KB := Lib.hid hk; have hz6 := hg.size; clear hk hg)
    | (refine blkLoad rfl (.tmp 1) rfl KA.out rfl ?_)
    | (refine blkLoad rfl (.tmp 3) rfl KB.out rfl ?_)
    | (refine blkBuild rfl rfl ?_)
    | (go_at_call_of 59 (blk S5); refine (P3.out _).mono ?_; rintro e w7 ⟨⟨A3, c3, rfl⟩, hb7⟩; replace KA := Lib.hid (KA.out.below hb7); replace KB := Lib.hid (KB.out.below hb7); replace HB := Lib.hid (below_ext HB.out hb7); have hz7 := hb7.size; clear hb7)
    | (go_at_call 59; refine (P4.out _).mono ?_; rintro e w8 ⟨⟨A4, c4, rfl⟩, hb8⟩; replace KA := Lib.hid (KA.out.below hb8); replace KB := Lib.hid (KB.out.below hb8); replace HB := Lib.hid (below_ext HB.out hb8); have hz8 := hb8.size; clear hb8)
    | (go_at_call_of 61 (blk S5); refine (P5.out _).mono ?_; rintro e w9 ⟨rfl, hb9⟩; replace KA := Lib.hid (KA.out.below hb9); replace KB := Lib.hid (KB.out.below hb9); replace HB := Lib.hid (below_ext HB.out hb9); have hz9 := hb9.size; clear hb9)
    | (go_at_call 61; refine (P6.out _).mono ?_; rintro e w10 ⟨rfl, hb10⟩; replace KA := Lib.hid (KA.out.below hb10); replace KB := Lib.hid (KB.out.below hb10); replace HB := Lib.hid (below_ext HB.out hb10); have hz10 := hb10.size; clear hb10)
    | (refine rowCell rfl _ (.tmp 54) rfl (C0.out _ _ KA.out) rfl agg_u8 ?_)
    | (refine rowCell rfl _ (.tmp 59) rfl (C56.out _ _ KA.out) rfl agg_u8 ?_))
  go_ret
  exact ⟨ret_b (by simp), HB.out⟩
end Go.Proofs.Ytdchcggllcgokaa.E

namespace Go.Proofs.Ytdchcggllcgokaa.E
open Go.RowKit Go.Proofs.Ytdchcggllcgokaa.L Go.Proofs.Ytdchcggllcgokaa.U Go.Proofs.Ytdchcggllcgokaa.R Go.Proofs.YtdchcggllcgokaaW.PrintWords
set_option linter.unusedVariables false
set_option linter.unusedSimpArgs false

def PutB (n : Nat) (ys S : List Int) (k : Int) : Prop := ∀ (A : Option Addr) (c : Nat) (w : World), ReadsInt w .u8 A ys.length ys → Calls Try.prog 56 #[.int .u64 (n : Int), .slice A ys.length c] w fun e w' => e = .returned (.tuple #[blk S, .int .i64 k]) ∧ Below w.heap.size w w'
def rPutB (n : Nat) (ys S : List Int) (k : Int) : Prop := ∀ (A : Option Addr) (c : Nat) (w : World), ReadsInt w .u8 A ys.length ys → Calls Try.prog 57 #[.int .u64 (n : Int), .slice A ys.length c] w fun e w' => e = .returned (.tuple #[blk S, .int .i64 k]) ∧ Below w.heap.size w w'
theorem put_b {n : Nat} {ys S : List Int} {k : Int} (hn : n < 18446744073709551616) (hw : Wf8 ys) (h : seals n ys = (S, k)) : PutB n ys S k := fun A c w hr => by
  have h2 := Put_seal n hn A c ys hw w hr
  rw [h] at h2
  exact h2
theorem rput_b {n : Nat} {ys S : List Int} {k : Int} (hn : n < 18446744073709551616) (hw : Wf8 ys) (h : seals n ys = (S, k)) : rPutB n ys S k := fun A c w hr => by
  have h2 := rPut_seal n hn A c ys hw w hr
  rw [h] at h2
  exact h2
set_option maxRecDepth 100000 in
set_option maxHeartbeats 2000000 in
theorem puts_any (n : Nat) (hn : n < 18446744073709551616) (B : Option Addr) (cap : Nat) (ys : List Int) (hw : Wf8 ys) (hl : ys.length ≤ 140737488351232) (w : World) (hr : ReadsInt w .u8 B ys.length ys) :
    Calls Try.prog 10 #[.int .u64 (n : Int), .slice B ys.length cap] w fun e w' => e = .returned (.bool true) ∧ Below w.heap.size w w' := by
  have HB := Lib.hid (Below.refl w.heap.size w)
  have HR := Lib.hid hr
  have HN := Lib.hid hl
  have tok0 : True := trivial
  obtain ⟨⟨SS, k⟩, hS⟩ : ∃ S, S = seals n ys := ⟨_, rfl⟩
  have HS : Hid (SS.length = 64) := Lib.hid (by have h := seals_length n ys; rwa [← hS] at h)
  have P1 := Lib.hid (put_b hn hw hS.symm)
  have P2 := Lib.hid (rput_b hn hw hS.symm)
  clear hr hl hS hw
  go_enter Try.func10, Try.ntmps10
  go_wp2_with (first
    | (go_at_call 33; refine (wide_b B cap ys _ HR.out HN.out).mono ?_; rintro e w1 ⟨⟨g, rfl, r1⟩, hb1⟩; have W1 := Lib.hid r1; replace HB := Lib.hid (below_ext HB.out hb1); have hz1 := hb1.size; clear hb1; have HC := Lib.hid (Below.refl w1.heap.size w1))
    | (go_at_call 56; refine (P1.out _ _ _ (S.wid_reads (W1.out.below HC.out))).mono ?_; rintro e w2 ⟨rfl, hb2⟩; replace HB := Lib.hid (below_ext HB.out hb2); replace HC := Lib.hid (below_ext HC.out hb2); have hz2 := hb2.size; clear hb2)
    | (have _t := tok0; refine blkAlloc rfl rfl ?_; intro w3 hk hb3 hz3; replace HB := Lib.hid (below_ext HB.out hb3); replace HC := Lib.hid (below_ext HC.out hb3); have KA := Lib.hid hk; have tok1 : True := trivial; clear hk hb3 _t tok0)
    | (refine blkStore rfl (.tmp 6) (.tmp 16) rfl KA.out rfl rfl HS.out ?_; intro w4 hk hg; replace HB := Lib.hid (below_at HB.out hg (by omega) KA.out.lt); replace HC := Lib.hid (below_at HC.out hg (by omega) KA.out.lt); replace KA := Lib.hid hk; have hz4 := hg.size; clear hk hg)
    | (go_at_call 57; refine (P2.out _ _ _ (HR.out.below HB.out)).mono ?_; rintro e w5 ⟨rfl, hb5⟩; replace KA := Lib.hid (KA.out.below hb5); replace HB := Lib.hid (below_ext HB.out hb5); replace HC := Lib.hid (below_ext HC.out hb5); have hz5 := hb5.size; clear hb5)
    | (have _t := tok1; refine blkAlloc rfl rfl ?_; intro w6 hk hb6 hz6; replace KA := Lib.hid (KA.out.below hb6); replace HB := Lib.hid (below_ext HB.out hb6); replace HC := Lib.hid (below_ext HC.out hb6); have KB := Lib.hid hk; have tok2 : True := trivial; clear hk hb6 _t tok1)
    | (refine blkStore rfl (.tmp 8) (.tmp 22) rfl KB.out rfl rfl HS.out ?_; intro w7 hk hg; replace HB := Lib.hid (below_at HB.out hg (by omega) KB.out.lt); replace HC := Lib.hid (below_at HC.out hg (by omega) KB.out.lt); replace KA := Lib.hid (KA.out.grown hg (by omega)); replace KB := Lib.hid hk; have hz7 := hg.size; clear hk hg)
    | (refine blkLoad rfl (.tmp 6) rfl KA.out rfl ?_)
    | (refine blkLoad rfl (.tmp 8) rfl KB.out rfl ?_)
    | (refine blkEql rfl (.tmp 24) (.tmp 25) _ rfl rfl rfl HS.out HS.out true (by simp) ?_)
    | (go_at_call 40; refine (left_b g B cap ys _ (W1.out.below HC.out) (HR.out.below HB.out) HN.out).mono ?_; rintro e w8 ⟨rfl, hb8⟩; replace KA := Lib.hid (KA.out.below hb8); replace KB := Lib.hid (KB.out.below hb8); replace HB := Lib.hid (below_ext HB.out hb8); replace HC := Lib.hid (below_ext HC.out hb8); have hz8 := hb8.size; clear hb8)
    | (go_at_call 58; refine (lives_any _).mono ?_; rintro e w9 ⟨rfl, hb9⟩; replace HB := Lib.hid (below_ext HB.out hb9); replace HC := Lib.hid (below_ext HC.out hb9); clear hb9))
  go_ret
  exact ⟨ret_b (by simp), HB.out⟩
theorem puts_any' (n : Int) (wn : (Lit.int .u64 n).wf = true) (B : Option Addr) (cap : Nat) (l : List Int) {w : World} (hr : ReadsInt w .u8 B l.length l) (y : l.length * 1 ≤ 140737488351232) (hw : ∀ x ∈ l, (Lit.int .u8 x).wf = true) (hc : l.length ≤ cap) :
    Calls Try.prog 10 #[.int .u64 n, .slice B l.length cap] w fun e w' => e = .returned (.bool true) ∧ Below w.heap.size w w' := by
  obtain ⟨n, rfl, hn⟩ := u64_nat wn
  exact puts_any n hn B cap l hw (by omega) w hr
theorem news_sealed {n m : Nat} {a b : List Int} (hn : n < 18446744073709551616) (hm : m < 18446744073709551616) (h0 : n ≠ 0) (k0 : m ≠ 0) (hl : a.length ≤ 44) (kl : b.length ≤ 44) : news (sealed n a) (sealed m b) = (if n < m then 1 else 0, 0) := by
  rw [news, gots_sealed h0 hn hl, gots_sealed k0 hm kl]
  by_cases h : n < m <;> simp [h]
theorem seals_err {n : Nat} {ys : List Int} {S : List Int} {k : Int} (h : seals n ys = (S, k)) : (k = 0 ∧ n ≠ 0 ∧ ys.length ≤ 44 ∧ S = sealed n ys) ∨ (k = 2 ∧ n = 0) ∨ (k = 3 ∧ n ≠ 0 ∧ 44 < ys.length) := by
  unfold seals at h
  split at h
  · injection h with h1 h2; exact .inr (.inl ⟨h2.symm, by assumption⟩)
  · split at h
    · injection h with h1 h2; exact .inr (.inr ⟨h2.symm, by assumption, by assumption⟩)
    · injection h with h1 h2; exact .inl ⟨h2.symm, by assumption, by omega, h1.symm⟩
set_option maxRecDepth 100000 in
set_option maxHeartbeats 4000000 in
theorem newest_any (n m : Nat) (hn : n < 18446744073709551616) (hm : m < 18446744073709551616) (A : Option Addr) (ca : Nat) (a : List Int) (ha : Wf8 a) (B : Option Addr) (cb : Nat) (b : List Int) (hb : Wf8 b) (z : List Int) (hz : z.length = 64) (hwz : Wf8 z) (w : World) (hra : ReadsInt w .u8 A a.length a) (hrb : ReadsInt w .u8 B b.length b) :
    Calls Try.prog 15 #[.int .u64 (n : Int), .int .u64 (m : Int), .slice A a.length ca, .slice B b.length cb, blk z] w fun e w' => e = .returned (.bool true) ∧ Below w.heap.size w w' := by
  have HB := Lib.hid (Below.refl w.heap.size w)
  have HA := Lib.hid hra
  have HR := Lib.hid hrb
  have HZ := Lib.hid hz
  have tok0 : True := trivial
  have tokN : True := trivial
  obtain ⟨⟨X, e⟩, hX⟩ : ∃ S, S = seals n a := ⟨_, rfl⟩
  obtain ⟨⟨Y, f⟩, hY⟩ : ∃ S, S = seals m b := ⟨_, rfl⟩
  have hXl : X.length = 64 := by have h := seals_length n a; rwa [← hX] at h
  have hYl : Y.length = 64 := by have h := seals_length m b; rwa [← hY] at h
  have hXw : Wf8 X := by have h := seals_wf n ha; rwa [← hX] at h
  have hYw : Wf8 Y := by have h := seals_wf m hb; rwa [← hY] at h
  have HX := Lib.hid hXl
  have HY := Lib.hid hYl
  have P1 := Lib.hid (put_b hn ha hX.symm)
  have P2 := Lib.hid (put_b hm hb hY.symm)
  by_cases hef : e = 0 ∧ f = 0
  · obtain ⟨rfl, rfl⟩ := hef
    rcases seals_err hX.symm with ⟨_, h0, hla, hX2⟩ | ⟨h, _⟩ | ⟨h, _⟩
    · rcases seals_err hY.symm with ⟨_, k0, hlb, hY2⟩ | ⟨h, _⟩ | ⟨h, _⟩
      · have P3 : Hid (∀ w : World, Calls Try.prog 61 #[blk X, blk Y] w fun e w' => e = .returned (.tuple #[.int .i64 (if n < m then 1 else 0), .int .i64 0]) ∧ Below w.heap.size w w') := Lib.hid fun w => by
          have h := Newest_any X Y hXl hXw hYl hYw w
          rw [show news X Y = (if n < m then 1 else 0, 0) by rw [hX2, hY2]; exact news_sealed hn hm h0 k0 hla hlb] at h
          exact h
        obtain ⟨k, hk⟩ : ∃ k, k = (gots z).2.2 := ⟨_, rfl⟩
        have P4 := Lib.hid (show GetN z (gots z).1 k from by rw [hk]; exact get_n hz hwz)
        have hgl := gots_lt hwz
        by_cases hk0 : k = 0
        · have e0 : (k == 0) = true := by simp [hk0]
          clear hX hY hXl hYl hXw hYw hX2 hY2 hk hk0 ha hb hz hwz hra hrb hla hlb h0 k0
          by_cases hnm : n < m
          all_goals
            simp only [hnm, if_true, if_false] at P3
            go_enter Try.func15, Try.ntmps15
            go_wp2_with (first
              | (refine blkBox rfl (.tmp 4) rfl rfl HZ.out ?_; intro w1 hk hb1 hz1; replace HB := Lib.hid (below_ext HB.out hb1); have KZ := Lib.hid hk; clear hk hb1)
              | (go_at_call_of 56 (Value.int .u64 (n : Int)); refine (P1.out _ _ _ (HA.out.below HB.out)).mono ?_; rintro e w2 ⟨rfl, hb2⟩; replace KZ := Lib.hid (KZ.out.below hb2); replace HB := Lib.hid (below_ext HB.out hb2); have hz2 := hb2.size; clear hb2)
              | (have _t := tok0; refine blkAlloc rfl rfl ?_; intro w3 hk hb3 hz3; replace KZ := Lib.hid (KZ.out.below hb3); replace HB := Lib.hid (below_ext HB.out hb3); have KA := Lib.hid hk; have tok1 : True := trivial; clear hk hb3 _t tok0)
              | (refine blkStore rfl (.tmp 11) (.tmp 30) rfl KA.out rfl rfl HX.out ?_; intro w4 hk hg; replace HB := Lib.hid (below_at HB.out hg (by omega) KA.out.lt); replace KZ := Lib.hid (KZ.out.grown hg (by omega)); replace KA := Lib.hid hk; have hz4 := hg.size; clear hk hg)
              | (go_at_call 56; refine (P2.out _ _ _ (HR.out.below HB.out)).mono ?_; rintro e w5 ⟨rfl, hb5⟩; replace KZ := Lib.hid (KZ.out.below hb5); replace KA := Lib.hid (KA.out.below hb5); replace HB := Lib.hid (below_ext HB.out hb5); have hz5 := hb5.size; clear hb5)
              | (have _t := tok1; refine blkAlloc rfl rfl ?_; intro w6 hk hb6 hz6; replace KZ := Lib.hid (KZ.out.below hb6); replace KA := Lib.hid (KA.out.below hb6); replace HB := Lib.hid (below_ext HB.out hb6); have KB := Lib.hid hk; have tok2 : True := trivial; clear hk hb6 _t tok1)
              | (refine blkStore rfl (.tmp 13) (.tmp 36) rfl KB.out rfl rfl HY.out ?_; intro w7 hk hg; replace HB := Lib.hid (below_at HB.out hg (by omega) KB.out.lt); replace KZ := Lib.hid (KZ.out.grown hg (by omega)); replace KA := Lib.hid (KA.out.grown hg (by omega)); replace KB := Lib.hid hk; have hz7 := hg.size; clear hk hg)
              | (refine blkLoad rfl (.tmp 9) rfl KZ.out rfl ?_)
              | (refine blkLoad rfl (.tmp 11) rfl KA.out rfl ?_)
              | (refine blkLoad rfl (.tmp 13) rfl KB.out rfl ?_)
              | (have _t := tokN; go_at_call_of 61 (blk X); refine (P3.out _).mono ?_; rintro e w8 ⟨rfl, hb8⟩; replace KZ := Lib.hid (KZ.out.below hb8); replace KA := Lib.hid (KA.out.below hb8); replace KB := Lib.hid (KB.out.below hb8); replace HB := Lib.hid (below_ext HB.out hb8); have hz8 := hb8.size; clear hb8; clear tokN _t)
              | (go_at_call 59; refine (P4.out _).mono ?_; rintro e w9 ⟨⟨A4, c4, l4, rfl⟩, hb9⟩; replace KZ := Lib.hid (KZ.out.below hb9); replace KA := Lib.hid (KA.out.below hb9); replace KB := Lib.hid (KB.out.below hb9); replace HB := Lib.hid (below_ext HB.out hb9); have hz9 := hb9.size; clear hb9)
              | (go_at_call 58; refine (lives_any _).mono ?_; rintro e w10 ⟨rfl, hb10⟩; replace HB := Lib.hid (below_ext HB.out hb10); clear hb10))
            go_ret
            exact ⟨ret_b (by simp), HB.out⟩
        · have e0 : (k == 0) = false := by simpa using hk0
          have hgx : gots X = (n, a ++ Z (44 - a.length), 0) := by rw [hX2]; exact gots_sealed h0 hn hla
          have hgy : gots Y = (m, b ++ Z (44 - b.length), 0) := by rw [hY2]; exact gots_sealed k0 hm hlb
          have P5 : Hid (∀ w : World, Calls Try.prog 61 #[blk z, blk Y] w fun e w' => e = .returned (.tuple #[.int .i64 1, .int .i64 0]) ∧ Below w.heap.size w w') := Lib.hid fun w => by
            have h := Newest_any z Y hz hwz hYl hYw w
            rw [show news z Y = (1, 0) by rw [news, hgy, ← hk]; simp [hk0]] at h
            exact h
          have P6 : Hid (∀ w : World, Calls Try.prog 61 #[blk X, blk z] w fun e w' => e = .returned (.tuple #[.int .i64 0, .int .i64 0]) ∧ Below w.heap.size w w') := Lib.hid fun w => by
            have h := Newest_any X z hXl hXw hz hwz w
            rw [show news X z = (0, 0) by rw [news, hgx, ← hk]; simp [hk0]] at h
            exact h
          have P7 : Hid (∀ w : World, Calls Try.prog 61 #[blk z, blk z] w fun e w' => e = .returned (.tuple #[.int .i64 0, .int .i64 7]) ∧ Below w.heap.size w w') := Lib.hid fun w => by
            have h := Newest_any z z hz hwz hz hwz w
            rw [show news z z = (0, 7) by rw [news, ← hk]; simp [hk0]] at h
            exact h
          clear hX hY hXl hYl hXw hYw hX2 hY2 hk hk0 ha hb hz hwz hra hrb hla hlb h0 k0 hgx hgy
          by_cases hnm : n < m
          all_goals
            simp only [hnm, if_true, if_false] at P3
            go_enter Try.func15, Try.ntmps15
            go_wp2_with (first
              | (refine blkBox rfl (.tmp 4) rfl rfl HZ.out ?_; intro w1 hk hb1 hz1; replace HB := Lib.hid (below_ext HB.out hb1); have KZ := Lib.hid hk; clear hk hb1)
              | (go_at_call_of 56 (Value.int .u64 (n : Int)); refine (P1.out _ _ _ (HA.out.below HB.out)).mono ?_; rintro e w2 ⟨rfl, hb2⟩; replace KZ := Lib.hid (KZ.out.below hb2); replace HB := Lib.hid (below_ext HB.out hb2); have hz2 := hb2.size; clear hb2)
              | (have _t := tok0; refine blkAlloc rfl rfl ?_; intro w3 hk hb3 hz3; replace KZ := Lib.hid (KZ.out.below hb3); replace HB := Lib.hid (below_ext HB.out hb3); have KA := Lib.hid hk; have tok1 : True := trivial; clear hk hb3 _t tok0)
              | (refine blkStore rfl (.tmp 11) (.tmp 30) rfl KA.out rfl rfl HX.out ?_; intro w4 hk hg; replace HB := Lib.hid (below_at HB.out hg (by omega) KA.out.lt); replace KZ := Lib.hid (KZ.out.grown hg (by omega)); replace KA := Lib.hid hk; have hz4 := hg.size; clear hk hg)
              | (go_at_call 56; refine (P2.out _ _ _ (HR.out.below HB.out)).mono ?_; rintro e w5 ⟨rfl, hb5⟩; replace KZ := Lib.hid (KZ.out.below hb5); replace KA := Lib.hid (KA.out.below hb5); replace HB := Lib.hid (below_ext HB.out hb5); have hz5 := hb5.size; clear hb5)
              | (have _t := tok1; refine blkAlloc rfl rfl ?_; intro w6 hk hb6 hz6; replace KZ := Lib.hid (KZ.out.below hb6); replace KA := Lib.hid (KA.out.below hb6); replace HB := Lib.hid (below_ext HB.out hb6); have KB := Lib.hid hk; have tok2 : True := trivial; clear hk hb6 _t tok1)
              | (refine blkStore rfl (.tmp 13) (.tmp 36) rfl KB.out rfl rfl HY.out ?_; intro w7 hk hg; replace HB := Lib.hid (below_at HB.out hg (by omega) KB.out.lt); replace KZ := Lib.hid (KZ.out.grown hg (by omega)); replace KA := Lib.hid (KA.out.grown hg (by omega)); replace KB := Lib.hid hk; have hz7 := hg.size; clear hk hg)
              | (refine blkLoad rfl (.tmp 9) rfl KZ.out rfl ?_)
              | (refine blkLoad rfl (.tmp 11) rfl KA.out rfl ?_)
              | (refine blkLoad rfl (.tmp 13) rfl KB.out rfl ?_)
              | (have _t := tokN; go_at_call_of 61 (blk X); refine (P3.out _).mono ?_; rintro e w8 ⟨rfl, hb8⟩; replace KZ := Lib.hid (KZ.out.below hb8); replace KA := Lib.hid (KA.out.below hb8); replace KB := Lib.hid (KB.out.below hb8); replace HB := Lib.hid (below_ext HB.out hb8); have hz8 := hb8.size; clear hb8; clear tokN _t)
              | (go_at_call 59; refine (P4.out _).mono ?_; rintro e w9 ⟨⟨A4, c4, l4, rfl⟩, hb9⟩; replace KZ := Lib.hid (KZ.out.below hb9); replace KA := Lib.hid (KA.out.below hb9); replace KB := Lib.hid (KB.out.below hb9); replace HB := Lib.hid (below_ext HB.out hb9); have hz9 := hb9.size; clear hb9)
              | (go_at_call_of 61 (blk Y); refine (P5.out _).mono ?_; rintro e w10 ⟨rfl, hb10⟩; replace KZ := Lib.hid (KZ.out.below hb10); replace KA := Lib.hid (KA.out.below hb10); replace KB := Lib.hid (KB.out.below hb10); replace HB := Lib.hid (below_ext HB.out hb10); have hz10 := hb10.size; clear hb10)
              | (go_at_call_of 61 (blk X); refine (P6.out _).mono ?_; rintro e w11 ⟨rfl, hb11⟩; replace KZ := Lib.hid (KZ.out.below hb11); replace KA := Lib.hid (KA.out.below hb11); replace KB := Lib.hid (KB.out.below hb11); replace HB := Lib.hid (below_ext HB.out hb11); have hz11 := hb11.size; clear hb11)
              | (go_at_call 61; refine (P7.out _).mono ?_; rintro e w12 ⟨rfl, hb12⟩; replace KZ := Lib.hid (KZ.out.below hb12); replace KA := Lib.hid (KA.out.below hb12); replace KB := Lib.hid (KB.out.below hb12); replace HB := Lib.hid (below_ext HB.out hb12); have hz12 := hb12.size; clear hb12)
              | (go_at_call 58; refine (lives_any _).mono ?_; rintro e w13 ⟨rfl, hb13⟩; replace HB := Lib.hid (below_ext HB.out hb13); clear hb13))
            go_ret
            exact ⟨ret_b (by simp), HB.out⟩
      · cases h
      · cases h
    · cases h
    · cases h
  · rcases (by omega : e ≠ 0 ∨ (e = 0 ∧ f ≠ 0)) with h | ⟨h, h2⟩
    · have e1 : (e != 0) = true := by simpa using h
      clear hX hY hXl hYl hXw hYw ha hb hz hwz hra hrb h hef
      go_enter Try.func15, Try.ntmps15
      go_wp2_with (first
        | (refine blkBox rfl (.tmp 4) rfl rfl HZ.out ?_; intro w1 hk hb1 hz1; replace HB := Lib.hid (below_ext HB.out hb1); have KZ := Lib.hid hk; clear hk hb1)
        | (go_at_call_of 56 (Value.int .u64 (n : Int)); refine (P1.out _ _ _ (HA.out.below HB.out)).mono ?_; rintro e w2 ⟨rfl, hb2⟩; replace KZ := Lib.hid (KZ.out.below hb2); replace HB := Lib.hid (below_ext HB.out hb2); have hz2 := hb2.size; clear hb2)
        | (have _t := tok0; refine blkAlloc rfl rfl ?_; intro w3 hk hb3 hz3; replace KZ := Lib.hid (KZ.out.below hb3); replace HB := Lib.hid (below_ext HB.out hb3); have KA := Lib.hid hk; have tok1 : True := trivial; clear hk hb3 _t tok0)
        | (refine blkStore rfl (.tmp 11) (.tmp 30) rfl KA.out rfl rfl HX.out ?_; intro w4 hk hg; replace HB := Lib.hid (below_at HB.out hg (by omega) KA.out.lt); replace KZ := Lib.hid (KZ.out.grown hg (by omega)); replace KA := Lib.hid hk; have hz4 := hg.size; clear hk hg)
        | (go_at_call 56; refine (P2.out _ _ _ (HR.out.below HB.out)).mono ?_; rintro e w5 ⟨rfl, hb5⟩; replace KZ := Lib.hid (KZ.out.below hb5); replace KA := Lib.hid (KA.out.below hb5); replace HB := Lib.hid (below_ext HB.out hb5); have hz5 := hb5.size; clear hb5)
        | (have _t := tok1; refine blkAlloc rfl rfl ?_; intro w6 hk hb6 hz6; replace KZ := Lib.hid (KZ.out.below hb6); replace KA := Lib.hid (KA.out.below hb6); replace HB := Lib.hid (below_ext HB.out hb6); have KB := Lib.hid hk; have tok2 : True := trivial; clear hk hb6 _t tok1)
        | (refine blkStore rfl (.tmp 13) (.tmp 36) rfl KB.out rfl rfl HY.out ?_; intro w7 hk hg; replace HB := Lib.hid (below_at HB.out hg (by omega) KB.out.lt); replace KZ := Lib.hid (KZ.out.grown hg (by omega)); replace KA := Lib.hid (KA.out.grown hg (by omega)); replace KB := Lib.hid hk; have hz7 := hg.size; clear hk hg)
        | (go_at_call 58; refine (lives_any _).mono ?_; rintro e w8 ⟨rfl, hb8⟩; replace HB := Lib.hid (below_ext HB.out hb8); clear hb8))
      go_ret
      exact ⟨ret_b (by simp), HB.out⟩
    · have e1 : (e != 0) = false := by simp [h]
      have e2 : (f != 0) = true := by simpa using h2
      clear hX hY hXl hYl hXw hYw ha hb hz hwz hra hrb h h2 hef
      go_enter Try.func15, Try.ntmps15
      go_wp2_with (first
        | (refine blkBox rfl (.tmp 4) rfl rfl HZ.out ?_; intro w1 hk hb1 hz1; replace HB := Lib.hid (below_ext HB.out hb1); have KZ := Lib.hid hk; clear hk hb1)
        | (go_at_call_of 56 (Value.int .u64 (n : Int)); refine (P1.out _ _ _ (HA.out.below HB.out)).mono ?_; rintro e w2 ⟨rfl, hb2⟩; replace KZ := Lib.hid (KZ.out.below hb2); replace HB := Lib.hid (below_ext HB.out hb2); have hz2 := hb2.size; clear hb2)
        | (have _t := tok0; refine blkAlloc rfl rfl ?_; intro w3 hk hb3 hz3; replace KZ := Lib.hid (KZ.out.below hb3); replace HB := Lib.hid (below_ext HB.out hb3); have KA := Lib.hid hk; have tok1 : True := trivial; clear hk hb3 _t tok0)
        | (refine blkStore rfl (.tmp 11) (.tmp 30) rfl KA.out rfl rfl HX.out ?_; intro w4 hk hg; replace HB := Lib.hid (below_at HB.out hg (by omega) KA.out.lt); replace KZ := Lib.hid (KZ.out.grown hg (by omega)); replace KA := Lib.hid hk; have hz4 := hg.size; clear hk hg)
        | (go_at_call 56; refine (P2.out _ _ _ (HR.out.below HB.out)).mono ?_; rintro e w5 ⟨rfl, hb5⟩; replace KZ := Lib.hid (KZ.out.below hb5); replace KA := Lib.hid (KA.out.below hb5); replace HB := Lib.hid (below_ext HB.out hb5); have hz5 := hb5.size; clear hb5)
        | (have _t := tok1; refine blkAlloc rfl rfl ?_; intro w6 hk hb6 hz6; replace KZ := Lib.hid (KZ.out.below hb6); replace KA := Lib.hid (KA.out.below hb6); replace HB := Lib.hid (below_ext HB.out hb6); have KB := Lib.hid hk; have tok2 : True := trivial; clear hk hb6 _t tok1)
        | (refine blkStore rfl (.tmp 13) (.tmp 36) rfl KB.out rfl rfl HY.out ?_; intro w7 hk hg; replace HB := Lib.hid (below_at HB.out hg (by omega) KB.out.lt); replace KZ := Lib.hid (KZ.out.grown hg (by omega)); replace KA := Lib.hid (KA.out.grown hg (by omega)); replace KB := Lib.hid hk; have hz7 := hg.size; clear hk hg)
        | (go_at_call 58; refine (lives_any _).mono ?_; rintro e w8 ⟨rfl, hb8⟩; replace HB := Lib.hid (below_ext HB.out hb8); clear hb8))
      go_ret
      exact ⟨ret_b (by simp), HB.out⟩
theorem newest_any' (n : Int) (wn : (Lit.int .u64 n).wf = true) (m : Int) (wm : (Lit.int .u64 m).wf = true) (A : Option Addr) (ca : Nat) (a : List Int) {w : World} (hra : ReadsInt w .u8 A a.length a) (y : a.length * 1 ≤ 140737488351232) (ha : ∀ x ∈ a, (Lit.int .u8 x).wf = true) (hc : a.length ≤ ca)
    (B : Option Addr) (cb : Nat) (b : List Int) (hrb : ReadsInt w .u8 B b.length b) (y2 : b.length * 1 ≤ 140737488351232) (hb : ∀ x ∈ b, (Lit.int .u8 x).wf = true) (hc2 : b.length ≤ cb) (z : List Int) (hz : z.length = 64) (hwz : ∀ x ∈ z, (Lit.int .u8 x).wf = true) :
    Calls Try.prog 15 #[.int .u64 n, .int .u64 m, .slice A a.length ca, .slice B b.length cb, .agg (z.map fun x => Value.int .u8 x).toArray] w fun e w' => e = .returned (.bool true) ∧ Below w.heap.size w w' := by
  obtain ⟨n, rfl, hn⟩ := u64_nat wn
  obtain ⟨m, rfl, hm⟩ := u64_nat wm
  exact newest_any n m hn hm A ca a ha B cb b hb z hz hwz w hra hrb
end Go.Proofs.Ytdchcggllcgokaa.E

namespace Go.Proofs.Ytdchcggllcgokaa.E
open Go.RowKit Go.Proofs.Ytdchcggllcgokaa.L Go.Proofs.Ytdchcggllcgokaa.U Go.Proofs.Ytdchcggllcgokaa.R Go.Proofs.YtdchcggllcgokaaW.PrintWords
set_option linter.unusedVariables false
set_option linter.unusedSimpArgs false

theorem more_one (s : BitVec 32) (a b : List (BitVec 8)) (x c : BitVec 8) (h : x ≠ c) : C.more s (a ++ x :: b) ≠ C.more s (a ++ c :: b) := by
  intro he
  have h1 : C.fold (~~~ s) (a ++ x :: b) = C.fold (~~~ s) (a ++ c :: b) := by
    have := congrArg (fun z : BitVec 32 => ~~~ z) he
    simpa [C.more] using this
  rw [C.fold_append, C.fold_append] at h1
  obtain ⟨r, hr⟩ : ∃ r, r = C.fold (~~~ s) a := ⟨_, rfl⟩
  rw [← hr] at h1
  have h2 : C.take r c = C.take r x ^^^ C.steps 8 ((x ^^^ c).setWidth 32) := by
    have h3 := C.take_xor r 0#32 x (x ^^^ c)
    rw [BitVec.xor_zero, ← BitVec.xor_assoc, BitVec.xor_self, BitVec.zero_xor, BitVec.zero_xor] at h3
    exact h3
  have h4 : C.fold (C.take r c) b = C.fold (C.take r x) b ^^^ C.steps (8 * b.length) (C.steps 8 ((x ^^^ c).setWidth 32)) := by rw [h2, C.fold_xor]
  have h5 : C.fold (C.take r x) b = C.fold (C.take r c) b := h1
  rw [h4] at h5
  have h6 : (x ^^^ c).setWidth 32 ≠ 0#32 := by
    intro h7
    apply h
    have h8 : (x ^^^ c).toNat = 0 := by
      have h9 := congrArg BitVec.toNat h7
      have h8 := (x ^^^ c).isLt
      rw [BitVec.toNat_setWidth, Nat.mod_eq_of_lt (by omega)] at h9
      exact h9
    have h10 : x ^^^ c = 0#8 := BitVec.eq_of_toNat_eq (by rw [h8]; rfl)
    have h11 : x ^^^ (x ^^^ c) = x := by rw [h10, BitVec.xor_zero]
    rw [← BitVec.xor_assoc, BitVec.xor_self, BitVec.zero_xor] at h11
    exact h11.symm
  have h12 := C.steps_ne (8 * b.length) (C.steps_ne 8 h6)
  apply h12
  have h13 := congrArg (fun z => C.fold (C.take r x) b ^^^ z) h5
  simp only [BitVec.xor_self, ← BitVec.xor_assoc, BitVec.zero_xor] at h13
  exact h13.symm
theorem crcs_set {xs : List Int} (hw : Wf8 xs) {k : Nat} (hk : k < xs.length) {v : Int} (hv : (Lit.int .u8 v).wf = true) (hne : v ≠ rd xs (k : Int)) : crcs (xs.set k v) ≠ crcs xs := by
  intro he
  have h1 : C.more 0#32 ((xs.set k v).map fun x => BitVec.ofInt 8 x) = C.more 0#32 (xs.map fun x => BitVec.ofInt 8 x) := BitVec.eq_of_toNat_eq he
  have e1 : xs = xs.take k ++ xs[k] :: xs.drop (k + 1) := by rw [← List.drop_eq_getElem_cons hk, List.take_append_drop]
  have e2 : xs.set k v = xs.take k ++ v :: xs.drop (k + 1) := List.set_eq_take_append_cons_drop.trans (if_pos hk)
  rw [e2] at h1
  conv at h1 => rhs; rw [e1]
  rw [List.map_append, List.map_append, List.map_cons, List.map_cons] at h1
  refine more_one 0#32 _ _ _ _ ?_ h1
  intro h2
  apply hne
  obtain ⟨v0, v1⟩ := bounds_u8 hv
  obtain ⟨x0, x1⟩ := bounds_u8 (hw _ (List.getElem_mem hk))
  have h3 := congrArg BitVec.toInt h2
  have e3 : rd xs (k : Int) = xs[k] := by simp [rd, List.getD_eq_getElem?_getD, List.getElem?_eq_getElem hk]
  rw [e3]
  have h4 := congrArg BitVec.toNat h2
  rw [BitVec.toNat_ofInt, BitVec.toNat_ofInt] at h4
  omega
theorem vle_inj {f g : Nat → Nat} (hf : ∀ i, f i < 256) (hg : ∀ i, g i < 256) : ∀ k, vle f k = vle g k → ∀ i, i < k → f i = g i := by
  intro k
  induction k with
  | zero => intro _ i hi; omega
  | succ k ih =>
    intro h i hi
    rw [vle, vle] at h
    have h1 := vle_lt f hf k
    have h2 := vle_lt g hg k
    obtain ⟨p, hp⟩ : ∃ p, p = 256 ^ k := ⟨_, rfl⟩
    rw [← hp] at h h1 h2
    have e1 : f k = (vle f k + f k * p) / p := by rw [Nat.add_mul_div_right _ _ (by omega), Nat.div_eq_of_lt h1, Nat.zero_add]
    have e2 : g k = (vle g k + g k * p) / p := by rw [Nat.add_mul_div_right _ _ (by omega), Nat.div_eq_of_lt h2, Nat.zero_add]
    have e3 : f k = g k := by rw [e1, e2, h]
    by_cases hik : i = k
    · rw [hik]; exact e3
    · refine ih ?_ i (by omega)
      rw [e3] at h; omega
theorem rd_set {xs : List Int} {k i : Nat} {v : Int} (hk : k < xs.length) : rd (xs.set k v) (i : Int) = if i = k then v else rd xs (i : Int) := by
  simp only [rd, Int.toNat_natCast, List.getD_eq_getElem?_getD, List.getElem?_set]
  by_cases h : k = i
  · subst h; simp [hk]
  · rw [if_neg h, if_neg (fun e => h e.symm)]
theorem bat_set {xs : List Int} {k a i : Nat} {v : Int} (hk : k < xs.length) : bat (xs.set k v) a i = if a + i = k then v.toNat else bat xs a i := by
  rw [bat, rd_set hk, bat]
  split <;> rfl
theorem set_wf {xs : List Int} {k : Nat} {v : Int} (hw : Wf8 xs) (hv : (Lit.int .u8 v).wf = true) : Wf8 (xs.set k v) := fun x hx => by
  rcases List.mem_or_eq_of_mem_set hx with h | rfl
  · exact hw x h
  · exact hv
theorem set_same {xs : List Int} {k : Nat} (hk : k < xs.length) : xs.set k (rd xs (k : Int)) = xs := by
  have e : rd xs (k : Int) = xs[k] := by simp [rd, List.getD_eq_getElem?_getD, List.getElem?_eq_getElem hk]
  rw [e, List.set_getElem_self]
/-- numbers of bytes that part at one byte part -/
theorem vle_set {xs : List Int} (hw : Wf8 xs) {k a s : Nat} {v : Int} (hk : k < xs.length) (hv : (Lit.int .u8 v).wf = true) (hne : v ≠ rd xs (k : Int)) (h1 : a ≤ k) (h2 : k < a + s) : vle (bat (xs.set k v) a) s ≠ vle (bat xs a) s := by
  intro h
  have h3 := vle_inj (bat_lt (set_wf hw hv) a) (bat_lt hw a) s h (k - a) (by omega)
  rw [bat_set hk, if_pos (by omega), bat, show a + (k - a) = k by omega] at h3
  obtain ⟨v0, v1⟩ := bounds_u8 hv
  have h4 := rd_byte hw k
  omega
theorem vle_out {xs : List Int} {k a s : Nat} {v : Int} (hk : k < xs.length) (h : k < a ∨ a + s ≤ k) : vle (bat (xs.set k v) a) s = vle (bat xs a) s :=
  vle_congr fun i hi => by rw [bat_set hk, if_neg (by omega)]
/-- one byte changed: refused -/
theorem byte_no {n : Nat} {ys : List Int} (h0 : n ≠ 0) (hn : n < 18446744073709551616) (hl : ys.length ≤ 44) (hw : Wf8 ys) {k : Nat} (hk : k < 64) {v : Int} (hv : (Lit.int .u8 v).wf = true) (hne : v ≠ rd (sealed n ys) (k : Int)) :
    (gots ((sealed n ys).set k v)).2.2 = 5 ∨ (gots ((sealed n ys).set k v)).2.2 = 6 := by
  have hkl : k < (sealed n ys).length := by rw [sealed_length hl]; exact hk
  have f1 := first_sealed (ys := ys) hn
  have l1 := last_sealed hn hl
  have t1 := told_sealed (n := n) hl
  have k1 := take_sealed (n := n) hl
  have sw := sealed_wf n hw
  obtain ⟨T, hT⟩ : ∃ T, T = sealed n ys := ⟨_, rfl⟩
  rw [← hT] at f1 l1 t1 k1 sw hkl hne ⊢
  rcases (by omega : k < 8 ∨ (8 ≤ k ∧ k < 52) ∨ (52 ≤ k ∧ k < 56) ∨ 56 ≤ k) with h | ⟨h, h2⟩ | ⟨h, h2⟩ | h
  · left
    have e1 : last (T.set k v) = n := by rw [last, vle_out hkl (by omega)]; exact l1
    have e2 : first (T.set k v) ≠ n := by rw [← f1]; exact vle_set sw hkl hv hne (by omega) (by omega)
    rw [gots, if_pos (.inr (by rw [e1]; exact e2))]
  · right
    have e1 : last (T.set k v) = n := by rw [last, vle_out hkl (by omega)]; exact l1
    have e2 : first (T.set k v) = n := by rw [first, vle_out hkl (by omega)]; exact f1
    have e3 : told (T.set k v) = crcs (T.take 52) := by rw [told, vle_out hkl (by omega), k1]; exact t1
    have e4 : (T.set k v).take 52 = (T.take 52).set k v := List.take_set ..
    rw [gots, if_neg (by rw [e1, e2]; omega), if_pos]
    rw [e3, e4]
    refine crcs_set (wf_take sw 52) (by rw [List.length_take]; omega) hv ?_
    intro h9
    apply hne
    rw [h9]
    simp [rd, List.getD_eq_getElem?_getD, List.getElem?_take, h2]
  · right
    have e1 : last (T.set k v) = n := by rw [last, vle_out hkl (by omega)]; exact l1
    have e2 : first (T.set k v) = n := by rw [first, vle_out hkl (by omega)]; exact f1
    have e3 : (T.set k v).take 52 = T.take 52 := by rw [List.take_set]; exact List.set_eq_of_length_le (by rw [List.length_take]; omega)
    have e4 : told (T.set k v) ≠ told T := vle_set sw hkl hv hne (by omega) (by omega)
    rw [gots, if_neg (by rw [e1, e2]; omega), if_pos]
    rw [e3, k1, ← t1]
    exact fun e => e4 e.symm
  · left
    have e1 : last (T.set k v) ≠ n := by rw [← l1]; exact vle_set sw hkl hv hne (by omega) (by omega)
    have e2 : first (T.set k v) = n := by rw [first, vle_out hkl (by omega)]; exact f1
    rw [gots, if_pos (.inr (by rw [e2]; exact fun e => e1 e.symm))]

/-! ### torn -/
theorem rd_cut {xs ys : List Int} {p i : Nat} (hx : xs.length = 64) (hy : ys.length = 64) (hp : p ≤ 64) : rd (xs.take p ++ ys.drop p) (i : Int) = if i < p then rd xs (i : Int) else rd ys (i : Int) := by
  simp only [rd, Int.toNat_natCast, List.getD_eq_getElem?_getD]
  by_cases h : i < p
  · rw [if_pos h, List.getElem?_append_left (by rw [List.length_take]; omega), List.getElem?_take, if_pos h]
  · rw [if_neg h, List.getElem?_append_right (by rw [List.length_take]; omega), List.length_take, Nat.min_eq_left (by omega), List.getElem?_drop, show p + (i - p) = i by omega]
theorem ext_rd {xs ys : List Int} (hx : xs.length = 64) (hy : ys.length = 64) (h : ∀ i : Nat, i < 64 → rd xs (i : Int) = rd ys (i : Int)) : xs = ys := by
  refine List.ext_getElem (by omega) fun i h1 h2 => ?_
  have h3 := h i (by omega)
  simpa [rd, List.getD_eq_getElem?_getD, List.getElem?_eq_getElem h1, List.getElem?_eq_getElem h2] using h3
theorem bytes_of {xs ys : List Int} (hwx : Wf8 xs) (hwy : Wf8 ys) {a s : Nat} (h : vle (bat xs a) s = vle (bat ys a) s) (i : Nat) (h1 : a ≤ i) (h2 : i < a + s) : rd xs (i : Int) = rd ys (i : Int) := by
  have h3 := vle_inj (bat_lt hwx a) (bat_lt hwy a) s h (i - a) (by omega)
  rw [bat, bat, show a + (i - a) = i by omega] at h3
  have h4 := rd_byte hwx i
  have h5 := rd_byte hwy i
  omega
/-- a sealed sector torn over one of another number: that one, the new one, or refused -/
theorem torn_is {old now : List Int} {n m : Nat} {q : Int} (ho : old.length = 64) (hn : now.length = 64) (hwo : Wf8 old) (hwn : Wf8 now) (h1 : first old = m) (h2 : last old = m) (h3 : first now = n) (h4 : last now = n) (hne : n ≠ m) :
    torn old now q = old ∨ torn old now q = now ∨ (gots (torn old now q)).2.2 = 5 := by
  obtain ⟨p, hp⟩ : ∃ p, p = min q.toNat 64 := ⟨_, rfl⟩
  have hp64 : p ≤ 64 := by omega
  have hT : torn old now q = now.take p ++ old.drop p := by rw [torn, hp]
  have hTl := torn_length (n := q) ho hn
  have hTw := torn_wf (n := q) hwo hwn
  have hrd : ∀ i : Nat, rd (torn old now q) (i : Int) = if i < p then rd now (i : Int) else rd old (i : Int) := fun i => by rw [hT]; exact rd_cut hn ho hp64
  obtain ⟨T, hTT⟩ : ∃ T, T = torn old now q := ⟨_, rfl⟩
  rw [← hTT] at hTl hTw hrd ⊢
  have err : first T ≠ last T → (gots T).2.2 = 5 := fun h => by rw [gots, if_pos (.inr h)]
  rcases (by omega : p ≤ 8 ∨ (8 < p ∧ p ≤ 56) ∨ 56 < p) with h | ⟨h, h'⟩ | h
  · have e1 : last T = m := by rw [← h2]; exact vle_congr fun i hi => by rw [bat, bat, hrd, if_neg (by omega)]
    by_cases e2 : first T = m
    · left
      refine ext_rd hTl ho fun i hi => ?_
      by_cases hi8 : i < 8
      · exact bytes_of hTw hwo (a := 0) (s := 8) (by rw [show vle (bat T 0) 8 = first T from rfl, e2, ← h1]; rfl) i (by omega) (by omega)
      · rw [hrd, if_neg (by omega)]
    · exact .inr (.inr (err (by rw [e1]; exact e2)))
  · refine .inr (.inr (err ?_))
    have e1 : last T = m := by rw [← h2]; exact vle_congr fun i hi => by rw [bat, bat, hrd, if_neg (by omega)]
    have e2 : first T = n := by rw [← h3]; exact vle_congr fun i hi => by rw [bat, bat, hrd, if_pos (by omega)]
    rw [e1, e2]; exact hne
  · have e2 : first T = n := by rw [← h3]; exact vle_congr fun i hi => by rw [bat, bat, hrd, if_pos (by omega)]
    by_cases e1 : last T = n
    · refine .inr (.inl (ext_rd hTl hn fun i hi => ?_))
      by_cases hi8 : i < 56
      · rw [hrd, if_pos (by omega)]
      · exact bytes_of hTw hwn (a := 56) (s := 8) (by rw [show vle (bat T 56) 8 = last T from rfl, e1, ← h4]; rfl) i (by omega) (by omega)
    · exact .inr (.inr (err (by rw [e2]; exact fun e => e1 e.symm)))
theorem first_zeros : first zeros = 0 := by decide +kernel
theorem last_zeros : last zeros = 0 := by decide +kernel
end Go.Proofs.Ytdchcggllcgokaa.E
