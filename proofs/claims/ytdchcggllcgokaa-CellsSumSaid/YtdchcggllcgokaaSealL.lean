/-
  Sealed sectors: what is put is got; ashlarlaw07.lives.
-/
import Derived.Test.YtdchcggllcgokaaSeal5
import Derived.Test.YtdchcggllcgokaaNumM
namespace Go.Proofs.Ytdchcggllcgokaa.E
open Go.RowKit Go.Proofs.Ytdchcggllcgokaa.L Go.Proofs.Ytdchcggllcgokaa.U Go.Proofs.Ytdchcggllcgokaa.R Go.Proofs.YtdchcggllcgokaaW.PrintWords
set_option linter.unusedVariables false
set_option linter.unusedSimpArgs false

theorem first_sealed {n : Nat} {ys : List Int} (hn : n < 18446744073709551616) : first (sealed n ys) = n := by
  have h := get_put n 8 (by omega) [] ((ys ++ List.replicate (44 - ys.length) 0) ++ (putb (crcs (front n ys)) 4 ++ putb n 8))
  rw [first, sealed, front, List.append_assoc]
  exact h
theorem last_sealed {n : Nat} {ys : List Int} (hn : n < 18446744073709551616) (hl : ys.length ≤ 44) : last (sealed n ys) = n := by
  have h := get_put n 8 (by omega) (front n ys ++ putb (crcs (front n ys)) 4) []
  rw [List.length_append, front_length hl, putb_length, List.append_nil, List.append_assoc] at h
  exact h
theorem told_sealed {n : Nat} {ys : List Int} (hl : ys.length ≤ 44) : told (sealed n ys) = crcs (front n ys) := by
  have h := get_put (crcs (front n ys)) 4 (by have := crcs_lt (front n ys); omega) (front n ys) (putb n 8)
  rw [front_length hl] at h
  exact h
theorem take_sealed {n : Nat} {ys : List Int} (hl : ys.length ≤ 44) : (sealed n ys).take 52 = front n ys := by
  have h := List.take_left (l₁ := front n ys) (l₂ := putb (crcs (front n ys)) 4 ++ putb n 8)
  rwa [front_length hl] at h
theorem inner_sealed {n : Nat} {ys : List Int} (hl : ys.length ≤ 44) : inner (sealed n ys) = ys ++ Z (44 - ys.length) := by
  have h1 : (putb n 8 ++ ((ys ++ Z (44 - ys.length)) ++ (putb (crcs (front n ys)) 4 ++ putb n 8))).drop 8 = (ys ++ Z (44 - ys.length)) ++ (putb (crcs (front n ys)) 4 ++ putb n 8) := by
    have h := List.drop_left (l₁ := putb n 8) (l₂ := (ys ++ Z (44 - ys.length)) ++ (putb (crcs (front n ys)) 4 ++ putb n 8))
    rwa [putb_length] at h
  have h2 : ((ys ++ Z (44 - ys.length)) ++ (putb (crcs (front n ys)) 4 ++ putb n 8)).take 44 = ys ++ Z (44 - ys.length) := by
    have h := List.take_left (l₁ := ys ++ Z (44 - ys.length)) (l₂ := putb (crcs (front n ys)) 4 ++ putb n 8)
    rwa [List.length_append, Z_length, show ys.length + (44 - ys.length) = 44 by omega] at h
  have h3 : sealed n ys = putb n 8 ++ ((ys ++ Z (44 - ys.length)) ++ (putb (crcs (front n ys)) 4 ++ putb n 8)) := by
    rw [sealed]
    conv => lhs; rw [front]
    rw [List.append_assoc]; rfl
  rw [inner, h3, h1, h2]
/-- what is put is got -/
theorem gots_sealed {n : Nat} {ys : List Int} (h0 : n ≠ 0) (hn : n < 18446744073709551616) (hl : ys.length ≤ 44) : gots (sealed n ys) = (n, ys ++ Z (44 - ys.length), 0) := by
  rw [gots, first_sealed hn, last_sealed hn hl, told_sealed hl, take_sealed hl, inner_sealed hl, if_neg (by omega), if_neg (by simp)]
theorem gots_zeros : gots zeros = (0, [], 5) := by
  have h : first zeros = 0 := by decide +kernel
  exact if_pos (.inl h)
theorem news_zeros : news zeros zeros = (0, 7) := by
  rw [news, gots_zeros]; rfl
theorem z_length : Z 44 = List.replicate 44 0 := rfl

def PutS (n : Nat) (k : Int) (A : Option Addr) (c : Nat) (ys S : List Int) : Prop := ∀ w : World, ReadsInt w .u8 A ys.length ys → Calls Try.prog 56 #[.int .u64 (n : Int), .slice A ys.length c] w fun e w' => e = .returned (.tuple #[blk S, .int .i64 k]) ∧ Below w.heap.size w w'
theorem put_s {n : Nat} {k : Int} {A : Option Addr} {c : Nat} {ys S : List Int} (hn : n < 18446744073709551616) (hw : Wf8 ys) (h : seals n ys = (S, k)) : PutS n k A c ys S := fun w hr => by
  have h2 := Put_seal n hn A c ys hw w hr
  rw [h] at h2
  exact h2
theorem nil_wf : Wf8 [] := fun x hx => by cases hx
theorem nil_reads (w : World) : ReadsInt w .u8 none 0 [] := ⟨rfl, by decide, fun h => absurd h (by decide)⟩
set_option maxRecDepth 100000 in
set_option maxHeartbeats 2000000 in
theorem lives_any (w : World) : Calls Try.prog 58 #[] w fun e w' => e = .returned (.bool true) ∧ Below w.heap.size w w' := by
  have HB := Lib.hid (Below.refl w.heap.size w)
  have tok0 : True := trivial
  obtain ⟨S5, h5⟩ : ∃ S, S = sealed 5 [] := ⟨_, rfl⟩
  obtain ⟨S6, h6⟩ : ∃ S, S = sealed 6 [] := ⟨_, rfl⟩
  have l5 : S5.length = 64 := by rw [h5]; exact sealed_length (by decide)
  have l6 : S6.length = 64 := by rw [h6]; exact sealed_length (by decide)
  have w5 : Wf8 S5 := by rw [h5]; exact sealed_wf 5 nil_wf
  have w6 : Wf8 S6 := by rw [h6]; exact sealed_wf 6 nil_wf
  have g5 : gots S5 = (5, Z 44, 0) := by rw [h5]; exact gots_sealed (by decide) (by decide) (by decide)
  have g6 : gots S6 = (6, Z 44, 0) := by rw [h6]; exact gots_sealed (by decide) (by decide) (by decide)
  have H5 := Lib.hid l5
  have H6 := Lib.hid l6
  have P1 : Hid (∀ w : World, Calls Try.prog 56 #[.int .u64 5, .slice none 0 0] w fun e w' => e = .returned (.tuple #[blk S5, .int .i64 0]) ∧ Below w.heap.size w w') := Lib.hid fun w =>
    put_s (n := 5) (by decide) nil_wf (by rw [seals_ok (by decide) (by decide), h5]) w (nil_reads w)
  have P2 : Hid (∀ w : World, Calls Try.prog 56 #[.int .u64 6, .slice none 0 0] w fun e w' => e = .returned (.tuple #[blk S6, .int .i64 0]) ∧ Below w.heap.size w w') := Lib.hid fun w =>
    put_s (n := 6) (by decide) nil_wf (by rw [seals_ok (by decide) (by decide), h6]) w (nil_reads w)
  have P3 : Hid (∀ w : World, Calls Try.prog 59 #[blk S5] w fun e w' => (∃ A c, e = .returned (.tuple #[.int .u64 5, .slice A 44 c, .int .i64 0])) ∧ Below w.heap.size w w') := Lib.hid fun w => by
    have h := Get_seal S5 l5 w5 w
    simp only [GotF, g5] at h
    exact h.mono fun _ _ ⟨⟨A, c, h1, _⟩, h2⟩ => ⟨⟨A, c, h1⟩, h2⟩
  have P4 : Hid (∀ w : World, Calls Try.prog 59 #[blk zeros] w fun e w' => (∃ A c, e = .returned (.tuple #[.int .u64 0, .slice A 0 c, .int .i64 5])) ∧ Below w.heap.size w w') := Lib.hid fun w => by
    have h := Get_seal zeros zeros_length (zeros_wf 64) w
    simp only [GotF, gots_zeros] at h
    exact h.mono fun _ _ ⟨⟨A, c, h1, _⟩, h2⟩ => ⟨⟨A, c, h1⟩, h2⟩
  have P5 : Hid (∀ w : World, Calls Try.prog 61 #[blk S5, blk S6] w fun e w' => e = .returned (.tuple #[.int .i64 1, .int .i64 0]) ∧ Below w.heap.size w w') := Lib.hid fun w => by
    have h := Newest_any S5 S6 l5 w5 l6 w6 w
    rw [show news S5 S6 = (1, 0) by rw [news, g5, g6]; rfl] at h
    exact h
  have P6 : Hid (∀ w : World, Calls Try.prog 61 #[blk zeros, blk zeros] w fun e w' => e = .returned (.tuple #[.int .i64 0, .int .i64 7]) ∧ Below w.heap.size w w') := Lib.hid fun w => by
    have h := Newest_any zeros zeros zeros_length (zeros_wf 64) zeros_length (zeros_wf 64) w
    rw [news_zeros] at h
    exact h
  have C0 : Hid (∀ (W : World) (g : Nat), Blk W g S5 → W.cell? ⟨g, 0, none⟩ = some (.int .u8 5)) := Lib.hid fun W g h => by
    rw [h.cell 0 (by decide), show rd S5 ((0 : Nat) : Int) = 5 by rw [h5]; decide +kernel]
  have C56 : Hid (∀ (W : World) (g : Nat), Blk W g S5 → W.cell? ⟨g, 56, none⟩ = some (.int .u8 5)) := Lib.hid fun W g h => by
    rw [h.cell 56 (by decide), show rd S5 ((56 : Nat) : Int) = 5 by rw [h5]; decide +kernel]
  clear h5 h6 l5 l6 w5 w6 g5 g6
  go_enter Try.func58, Try.ntmps58
  go_wp2_with (first
    | (go_at_call_of 56 (Value.int .u64 5); refine (P1.out _).mono ?_; rintro e w1 ⟨rfl, hb1⟩; replace HB := Lib.hid (below_ext HB.out hb1); have hz1 := hb1.size; clear hb1)
    | (have _t := tok0; refine blkAlloc rfl rfl ?_; intro w2 hk hb2 hz2; replace HB := Lib.hid (below_ext HB.out hb2); have KA := Lib.hid hk; have tok1 : True := trivial; clear hk hb2 _t tok0)
    | (refine blkStore rfl (.tmp 1) (.tmp 17) rfl KA.out rfl rfl H5.out ?_; intro w3 hk hg; replace HB := Lib.hid (below_at HB.out hg (by omega) KA.out.lt); replace KA := Lib.hid hk; have hz3 := hg.size; clear hk hg)
    | (go_at_call 56; refine (P2.out _).mono ?_; rintro e w4 ⟨rfl, hb4⟩; replace KA := Lib.hid (KA.out.below hb4); replace HB := Lib.hid (below_ext HB.out hb4); have hz4 := hb4.size; clear hb4)
    | (have _t := tok1; refine blkAlloc rfl rfl ?_; intro w5 hk hb5 hz5; replace KA := Lib.hid (KA.out.below hb5); replace HB := Lib.hid (below_ext HB.out hb5); have KB := Lib.hid hk; have tok2 : True := trivial; clear hk hb5 _t tok1)
    | (refine blkStore rfl (.tmp 3) (.tmp 21) rfl KB.out rfl rfl H6.out ?_; intro w6 hk hg; replace HB := Lib.hid (below_at HB.out hg (by omega) KB.out.lt); replace KA := Lib.hid (KA.out.grown hg (by omega)); replace KB := Lib.hid hk; have hz6 := hg.size; clear hk hg)
    | (refine blkLoad rfl (.tmp 1) rfl KA.out rfl ?_)
    | (refine blkLoad rfl (.tmp 3) rfl KB.out rfl ?_)
    | (refine blkBuild rfl rfl ?_)
    | (go_at_call_of 59 (blk S5); refine (P3.out _).mono ?_; rintro e w7 ⟨⟨A3, c3, rfl⟩, hb7⟩; replace KA := Lib.hid (KA.out.below hb7); replace KB := Lib.hid (KB.out.below hb7); replace HB := Lib.hid (below_ext HB.out hb7); have hz7 := hb7.size; clear hb7)
    | (go_at_call 59; refine (P4.out _).mono ?_; rintro e w8 ⟨⟨A4, c4, rfl⟩, hb8⟩; replace KA := Lib.hid (KA.out.below hb8); replace KB := Lib.hid (KB.out.below hb8); replace HB := Lib.hid (below_ext HB.out hb8); have hz8 := hb8.size; clear hb8)
    | (go_at_call_of 61 (blk S5); refine (P5.out _).mono ?_; rintro e w9 ⟨rfl, hb9⟩; replace KA := Lib.hid (KA.out.below hb9); replace KB := Lib.hid (KB.out.below hb9); replace HB := Lib.hid (below_ext HB.out hb9); have hz9 := hb9.size; clear hb9)
    | (go_at_call 61; refine (P6.out _).mono ?_; rintro e w10 ⟨rfl, hb10⟩; replace KA := Lib.hid (KA.out.below hb10); replace KB := Lib.hid (KB.out.below hb10); replace HB := Lib.hid (below_ext HB.out hb10); have hz10 := hb10.size; clear hb10)
    | (refine rowCell rfl _ (.tmp 54) rfl (C0.out _ _ KA.out) rfl agg_u8 ?_)
    | (refine rowCell rfl _ (.tmp 59) rfl (C56.out _ _ KA.out) rfl agg_u8 ?_))
  go_ret
  exact ⟨ret_b (by simp), HB.out⟩
end Go.Proofs.Ytdchcggllcgokaa.E
