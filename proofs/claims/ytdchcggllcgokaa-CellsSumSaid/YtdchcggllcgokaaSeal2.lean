/-
  ashlarref07.Put: the walk.
-/
import Derived.Test.YtdchcggllcgokaaSeal1
namespace Go.Proofs.Ytdchcggllcgokaa.E
open Go.RowKit Go.Proofs.Ytdchcggllcgokaa.L Go.Proofs.Ytdchcggllcgokaa.U Go.Proofs.Ytdchcggllcgokaa.R Go.Proofs.YtdchcggllcgokaaW.PrintWords
set_option linter.unusedVariables false
set_option linter.unusedSimpArgs false

theorem info_u8 : (Try.prog.info? 5).map (fun i => (i.zero, i.size, i.bytes)) = some (some (.int .u8 0), 1, 1) := by kernel_rfl
def rPutN (s : Nat) (n : Nat) (X : List Int) (k : Int) : Prop := ∀ w : World, Calls Try.prog 43 #[.int .u64 (n : Int), .int .i64 (s : Int)] w fun e w' => (∃ A c, e = .returned (.tuple #[.slice A X.length c, .int .i64 k]) ∧ Byts w.heap.size w' A c X) ∧ Below w.heap.size w w'
theorem rput_n {n s : Nat} {X : List Int} {k : Int} (hn : n < 18446744073709551616) (hs : s ≤ 8) (h : puts n s = (X, k)) : rPutN s n X k := fun w => by
  have h2 := rPut_all n hn s (by omega) w
  simp only [PutP, h] at h2
  exact h2
theorem pad_next (X ys : List Int) (q : Nat) : (X ++ (ys ++ Z q)) ++ [0] = X ++ (ys ++ Z (q + 1)) := by
  rw [Z_add]; simp [Z]
theorem pad_end (n : Nat) (ys : List Int) : putb n 8 ++ (ys ++ Z (44 - ys.length)) = front n ys := rfl
theorem lay_next (S : List Int) (q : Nat) (h : q < S.length) (hS : S.length = 64) : (S.take q ++ Z (64 - q)).set q (rd S (q : Int)) = S.take (q + 1) ++ Z (64 - (q + 1)) := by
  rw [List.set_append_right _ _ (by simp; omega), List.length_take, Nat.min_eq_left (by omega), Nat.sub_self]
  obtain ⟨d, hd⟩ : ∃ d, 64 - q = d + 1 := ⟨64 - q - 1, by omega⟩
  rw [Z, hd, List.replicate_succ, List.set_cons_zero, List.take_succ_eq_append_getElem h, show 64 - (q + 1) = d by omega, List.append_assoc, List.singleton_append, rd, Int.toNat_natCast, List.getD_eq_getElem?_getD, List.getElem?_eq_getElem h, Option.getD_some, Z]
theorem lay_end (S : List Int) (hS : S.length = 64) : S.take 64 ++ Z (64 - 64) = S := by
  rw [List.take_of_length_le (by omega)]; simp [Z]
set_option maxRecDepth 100000 in
set_option maxHeartbeats 2000000 in
theorem rPut_sealed (n : Nat) (hn : n < 18446744073709551616) (h0 : n ≠ 0) (B : Option Addr) (cap : Nat) (ys : List Int) (hw : Wf8 ys) (hl : ys.length ≤ 44) (w : World) (hr : ReadsInt w .u8 B ys.length ys) :
    Calls Try.prog 57 #[.int .u64 (n : Int), .slice B ys.length cap] w fun e w' => e = .returned (.tuple #[blk (sealed n ys), .int .i64 0]) ∧ Below w.heap.size w w' := by
  have HB := Lib.hid (Below.refl w.heap.size w)
  have HR := Lib.hid hr
  obtain ⟨X, hX⟩ : ∃ X, X = putb n 8 := ⟨_, rfl⟩
  obtain ⟨F, hF⟩ : ∃ F, F = front n ys := ⟨_, rfl⟩
  obtain ⟨s, hs⟩ : ∃ s, s = crcs F := ⟨_, rfl⟩
  obtain ⟨Y, hY⟩ : ∃ Y, Y = putb s 4 := ⟨_, rfl⟩
  obtain ⟨S, hS⟩ : ∃ S, S = sealed n ys := ⟨_, rfl⟩
  have hsl : s < 4294967296 := by rw [hs]; exact crcs_lt _
  have hFl : F.length = 52 := by rw [hF]; exact front_length hl
  have hXl : X.length = 8 := by rw [hX, putb_length]
  have hYl : Y.length = 4 := by rw [hY, putb_length]
  have P1 := Lib.hid (rput_n (s := 8) hn (by decide) (by rw [puts_ok (by decide) (by decide) (by omega), hX]) : rPutN 8 n X 0)
  have P3 := Lib.hid (rput_n (s := 4) (by omega) (by decide) (by rw [puts_ok (by decide) (by decide) (by omega), hY]) : rPutN 4 s Y 0)
  have P2 : Hid (∀ (A : Option Addr) (cap : Nat) (w : World), ReadsInt w .u8 A F.length F → Calls Try.prog 124 #[.slice A F.length cap] w fun e w' => e = .returned (.int .u32 (s : Int)) ∧ Below w.heap.size w w') := Lib.hid fun A cap w hr => by
    have h := rOf_b A cap F (by rw [hF]; exact front_wf n hw) w hr
    rw [← hs] at h
    exact h
  have HX8 := Lib.hid (show X.length ≤ 140737488355328 by omega)
  have HL5 := Lib.hid (show (X.length + ys.length) * 1 ≤ 140737488355328 by omega)
  have HL7 := Lib.hid (show (F.length + Y.length) * 1 ≤ 140737488355328 by omega)
  have HL8 := Lib.hid (show ((F ++ Y).length + X.length) * 1 ≤ 140737488355328 by rw [List.length_append]; omega)
  have HXl := Lib.hid hXl
  have HFp := Lib.hid (show X ++ (ys ++ Z (44 - ys.length)) = F by rw [hX, hF]; exact pad_end n ys)
  have HFl := Lib.hid hFl
  have HS9 := Lib.hid (show F ++ Y ++ X = S by rw [hS, sealed, ← hF, ← hs, ← hY, ← hX, List.append_assoc])
  have HS := Lib.hid (show S.length = 64 by rw [hS]; exact sealed_length hl)
  have hn0 : ((n : Int) == 0) = false := by simp; omega
  rw [← hS]
  clear hr hX hF hs hY hS hFl hXl hYl hw h0
  go_enter Try.func57, Try.ntmps57
  go_wp2_with (first
    | (refine blkAlloc rfl rfl ?_; intro w1 hk1 hb1 hz1; have K := Lib.hid hk1; replace HB := Lib.hid (below_ext HB.out hb1); clear hk1 hb1)
    | (go_at_call_of 43 (Value.int .i64 8); refine (P1.out _).mono ?_; rintro e w2 ⟨⟨A1, c1, rfl, o1⟩, hb2⟩; have O1 := Lib.hid o1; replace K := Lib.hid (K.out.below hb2); replace HB := Lib.hid (below_ext HB.out hb2); clear o1 hb2)
    | (go_at_call 41; refine (copy_b A1 c1 X _ O1.out.reads HX8.out).mono ?_; rintro e w3 ⟨⟨A2, c2, rfl, o2⟩, hb3⟩; have O2 := Lib.hid o2; have B2 := Lib.hid hb3; clear o2 hb3)
    | (at_builtin; refine print_append_row (w0 := w2) w2.heap.size rfl (.tmp 27) (.tmp 28) 22 5 .u8 1 rfl Try.underlying22 info_u8 (by decide) _ X ys B ys.length cap rfl rfl O2.out (HR.out.below (below_ext HB.out B2.out)) B2.out B2.out.size HL5.out ?_; intro v4 w4 ho4 hb4 hg4 hat4; have O4 := Lib.hid ho4; have B4 := Lib.hid hb4; clear ho4 hb4 hg4 hat4 O2 B2))
  go_loopw [8] (fun v wr => ∃ q : Nat, q ≤ 44 - ys.length ∧ Hid (∃ A c, v = .slice A (8 + ys.length + q) c) ∧ Hid (wr.ownsRow w2.heap.size 5 1 v (X ++ (ys ++ Z q)).length (nums .u8 (X ++ (ys ++ Z q)))) ∧ Hid (Below w2.heap.size w2 wr)) (fun v _ => 52 - (match v with | .slice _ n _ => n | _ => 0))
  case atStart =>
    refine ⟨0, Nat.zero_le _, Lib.hid ?_, Lib.hid (by simpa [Z] using O4.out), B4⟩
    obtain ⟨A, c, h⟩ := own_slice O4.out
    exact ⟨A, c, by rw [h, List.length_append, HXl.out]; rfl⟩
  case round =>
    obtain ⟨q, hq, HV, HO, HC⟩ := hrel
    obtain ⟨A4, c4, rfl⟩ := HV.out
    by_cases hlt : q < 44 - ys.length
    · have HX := Lib.hid (pad_next X ys q)
      have HL6 := Lib.hid (show ((X ++ (ys ++ Z q)).length + 1) * 1 ≤ 140737488355328 by rw [List.length_append, List.length_append, Z_length, HXl.out]; omega)
      have hlt2 : 8 + ys.length + q < 52 := by omega
      go_wp2_with (first
        | (at_builtin; refine print_append_num (w0 := w2) w2.heap.size rfl (.tmp 33) (.tmp 34) 22 5 .u8 1 rfl Try.underlying22 info_u8 (by decide) _ (X ++ (ys ++ Z q)) 0 rfl rfl HO.out HC.out HC.out.size HL6.out ?_; intro v5 w5 ho5 hb5 hg5 hat5; rw [HX.out] at ho5; have B5 := Lib.hid hb5; have O5 := Lib.hid ho5; clear ho5 hb5 hg5 hat5))
      go_roundw
      case rel =>
        refine ⟨q + 1, by omega, Lib.hid ?_, O5, B5⟩
        obtain ⟨A, c, h⟩ := own_slice O5.out
        exact ⟨A, c, by rw [h, List.length_append, List.length_append, Z_length, HXl.out]; congr 1; omega⟩
      case measure =>
        obtain ⟨A, c, h⟩ := own_slice O5.out
        rw [h, List.length_append, List.length_append, Z_length, HXl.out]
        simp only
        omega
    · have hq2 : q = 44 - ys.length := by omega
      have HQ := Lib.hid hq2
      rw [show X ++ (ys ++ Z q) = F by rw [hq2]; exact HFp.out] at HO
      have hlen : 8 + ys.length + q = F.length := by rw [HFl.out]; omega
      have hge : ¬ 8 + ys.length + q < 52 := by omega
      have R5 := Lib.hid (own_reads' (by rw [hlen] at HO; exact HO.out) : ReadsInt wr .u8 A4 F.length F)
      replace HO : Hid (wr.ownsRow w2.heap.size 5 1 (.slice A4 F.length c4) F.length (nums .u8 F)) := Lib.hid (by rw [hlen] at HO; exact HO.out)
      rw [hlen]
      have hge2 : ¬ F.length < 52 := by rw [HFl.out]; decide
      clear hlen hge hq2 hlt hq HV HQ
      go_wp2_with (first
        | (go_at_call 124; refine (P2.out _ _ _ R5.out).mono ?_; rintro e w6 ⟨rfl, hb6⟩; replace HO := Lib.hid (pw_own_below HO.out hb6); replace HC := Lib.hid (below_ext HC.out hb6); clear hb6)
        | (go_at_call 43; refine (P3.out _).mono ?_; rintro e w7 ⟨⟨A2, c2, rfl, o2⟩, hb7⟩; have O2 := Lib.hid o2; replace HO := Lib.hid (pw_own_below HO.out hb7); replace HC := Lib.hid (below_ext HC.out hb7); have tok1 : True := trivial; clear o2 hb7)
        | (at_builtin; have _t := tok1; refine print_append_row (w0 := w2) w2.heap.size rfl (.tmp 43) (.tmp 44) 22 5 .u8 1 rfl Try.underlying22 info_u8 (by decide) _ F Y A2 Y.length c2 rfl rfl HO.out O2.out.reads HC.out HC.out.size HL7.out ?_; intro v8 w8 ho8 hb8 hg8 hat8; have O8 := Lib.hid ho8; replace HC := Lib.hid hb8; have tok2 : True := trivial; clear ho8 hb8 hg8 hat8 HO O2 tok1 _t)
        | (at_builtin; have _t := tok2; refine print_append_row (w0 := w2) w2.heap.size rfl (.tmp 46) (.tmp 47) 22 5 .u8 1 rfl Try.underlying22 info_u8 (by decide) _ (F ++ Y) X A1 X.length c1 rfl rfl O8.out (O1.out.reads.below HC.out) HC.out HC.out.size HL8.out ?_; intro v9 w9 ho9 hb9 hg9 hat9; rw [HS9.out] at ho9; have O9 := Lib.hid ho9; replace HC := Lib.hid hb9; clear ho9 hb9 hg9 hat9 O8 tok2 _t)
        | (refine blkAlloc rfl rfl ?_; intro w10 hk1 hb1 hz10; have K2 := Lib.hid hk1; have HD := Lib.hid hb1; clear hk1 hb1))
      obtain ⟨A9, c9, he9, hr9⟩ := own_reads O9.out
      have R9 := Lib.hid hr9
      subst he9
      clear hr9 O9
      go_loopw [12] (fun i wr => ∃ q : Nat, q ≤ 64 ∧ i = .int .i64 q ∧ Hid (Blk wr w9.heap.size (S.take q ++ Z (64 - q))) ∧ Hid (Below w9.heap.size w9 wr)) (fun i _ => 64 - (intOf i).toNat)
      case atStart => exact ⟨0, by omega, rfl, Lib.hid (by simpa [Z, zeros] using K2.out), HD⟩
      case round =>
        clear HD K2
        obtain ⟨q, hq, rfl, KK, HD⟩ := hrel
        by_cases hlt : q < 64
        · have HN := Lib.hid (lay_next S q (by rw [HS.out]; exact hlt) HS.out)
          obtain ⟨ad, rfl, cx⟩ := (R9.out.below HD.out).at_ (q : Int) (by omega) (by rw [HS.out]; omega)
          rw [Int.toNat_natCast] at cx
          have hi1 : (q : Int) < (S.length : Int) := by rw [HS.out]; omega
          have hq64 : q < 64 := hlt
          go_wp2_with (first
            | (refine blkSet rfl (.tmp 58) (.tmp 57) rfl KK.out q hq64 rfl _ rfl ?_; intro w11 hk hg; rw [HN.out] at hk; have D11 := Lib.hid (below_at HD.out hg (Nat.le_refl _) KK.out.lt); have K11 := Lib.hid hk; clear hk hg))
          go_roundw
          case rel => exact ⟨q + 1, by omega, by go_num, K11, D11⟩
          case measure => simp [intOf]; omega
        · obtain rfl : q = 64 := by omega
          have hge3 : ¬ (64 : Int) < 64 := by omega
          rw [lay_end S HS.out] at KK
          replace K := Lib.hid (K.out.below (below_ext HC.out HD.out))
          replace HB := Lib.hid (below_ext HB.out (below_ext HC.out HD.out))
          go_wp2_with (first
            | (refine blkLoad rfl (.tmp 11) rfl KK.out rfl ?_)
            | (refine blkStore rfl (.tmp 4) (.tmp 59) rfl K.out rfl rfl HS.out ?_; intro w12 hk hg; replace HB := Lib.hid (below_at HB.out hg (Nat.le_refl _) K.out.lt); replace K := Lib.hid hk; clear hk hg))
          refine bodyPost_ret (v := .tuple #[blk S, .int .i64 0]) (ret_blk rfl _ _ K.out rfl rfl) rfl ⟨rfl, HB.out⟩
theorem rPut_none (B : Option Addr) (cap : Nat) (ys : List Int) (w : World) :
    Calls Try.prog 57 #[.int .u64 0, .slice B ys.length cap] w fun e w' => e = .returned (.tuple #[blk zeros, .int .i64 2]) ∧ Below w.heap.size w w' := by
  have HB := Lib.hid (Below.refl w.heap.size w)
  go_enter Try.func57, Try.ntmps57
  go_wp2_with (first
    | (refine blkAlloc rfl rfl ?_; intro w1 hk1 hb1 hz1; have K := Lib.hid hk1; replace HB := Lib.hid (below_ext HB.out hb1); clear hk1 hb1)
    | (refine blkBuild rfl rfl ?_)
    | (refine blkStore rfl (.tmp 4) (.tmp 15) rfl K.out rfl rfl zeros_length ?_; intro w9 hk hg; replace HB := Lib.hid (below_at HB.out hg (Nat.le_refl _) K.out.lt); replace K := Lib.hid hk; clear hk hg))
  refine bodyPost_ret (v := .tuple #[blk zeros, .int .i64 2]) (ret_blk rfl _ _ K.out rfl rfl) rfl ⟨rfl, HB.out⟩
theorem rPut_long (n : Nat) (hn : n < 18446744073709551616) (h0 : n ≠ 0) (B : Option Addr) (cap : Nat) (ys : List Int) (hl : 44 < ys.length) (w : World) :
    Calls Try.prog 57 #[.int .u64 (n : Int), .slice B ys.length cap] w fun e w' => e = .returned (.tuple #[blk zeros, .int .i64 3]) ∧ Below w.heap.size w w' := by
  have HB := Lib.hid (Below.refl w.heap.size w)
  have hn0 : ((n : Int) == 0) = false := by simp; omega
  go_enter Try.func57, Try.ntmps57
  go_wp2_with (first
    | (refine blkAlloc rfl rfl ?_; intro w1 hk1 hb1 hz1; have K := Lib.hid hk1; replace HB := Lib.hid (below_ext HB.out hb1); clear hk1 hb1)
    | (refine blkBuild rfl rfl ?_)
    | (refine blkStore rfl (.tmp 4) (.tmp 19) rfl K.out rfl rfl zeros_length ?_; intro w9 hk hg; replace HB := Lib.hid (below_at HB.out hg (Nat.le_refl _) K.out.lt); replace K := Lib.hid hk; clear hk hg))
  refine bodyPost_ret (v := .tuple #[blk zeros, .int .i64 3]) (ret_blk rfl _ _ K.out rfl rfl) rfl ⟨rfl, HB.out⟩
theorem rPut_seal (n : Nat) (hn : n < 18446744073709551616) (B : Option Addr) (cap : Nat) (ys : List Int) (hw : Wf8 ys) (w : World) (hr : ReadsInt w .u8 B ys.length ys) :
    Calls Try.prog 57 #[.int .u64 (n : Int), .slice B ys.length cap] w fun e w' => e = .returned (.tuple #[blk (seals n ys).1, .int .i64 (seals n ys).2]) ∧ Below w.heap.size w w' := by
  by_cases h0 : n = 0
  · subst h0
    rw [seals_nil]
    exact rPut_none B cap ys w
  · by_cases hl : 44 < ys.length
    · rw [seals_long h0 hl]
      exact rPut_long n hn h0 B cap ys hl w
    · rw [seals_ok h0 (by omega)]
      exact rPut_sealed n hn h0 B cap ys hw (by omega) w hr
end Go.Proofs.Ytdchcggllcgokaa.E
