/-
  ashlarlaw07.SealPuts, SealNewest: the walks.
-/
import Derived.Test.YtdchcggllcgokaaSealL
import Derived.Test.YtdchcggllcgokaaNumLaw1
namespace Go.Proofs.Ytdchcggllcgokaa.E
open Go.RowKit Go.Proofs.Ytdchcggllcgokaa.L Go.Proofs.Ytdchcggllcgokaa.U Go.Proofs.Ytdchcggllcgokaa.R Go.Proofs.YtdchcggllcgokaaW.PrintWords
set_option linter.unusedVariables false
set_option linter.unusedSimpArgs false

def PutB (n : Nat) (ys S : List Int) (k : Int) : Prop := ∀ (A : Option Addr) (c : Nat) (w : World), ReadsInt w .u8 A ys.length ys → Calls Try.prog 56 #[.int .u64 (n : Int), .slice A ys.length c] w fun e w' => e = .returned (.tuple #[blk S, .int .i64 k]) ∧ Below w.heap.size w w'
def rPutB (n : Nat) (ys S : List Int) (k : Int) : Prop := ∀ (A : Option Addr) (c : Nat) (w : World), ReadsInt w .u8 A ys.length ys → Calls Try.prog 57 #[.int .u64 (n : Int), .slice A ys.length c] w fun e w' => e = .returned (.tuple #[blk S, .int .i64 k]) ∧ Below w.heap.size w w'
theorem put_b {n : Nat} {ys S : List Int} {k : Int} (hn : n < 18446744073709551616) (hw : Wf8 ys) (h : seals n ys = (S, k)) : PutB n ys S k := fun A c w hr => by
  have h2 := Put_seal n hn A c ys hw w hr
  rw [h] at h2
  exact h2
theorem rput_b {n : Nat} {ys S : List Int} {k : Int} (hn : n < 18446744073709551616) (hw : Wf8 ys) (h : seals n ys = (S, k)) : rPutB n ys S k := fun A c w hr => by
  have h2 := rPut_seal n hn A c ys hw w hr
  rw [h] at h2
  exact h2
set_option maxRecDepth 100000 in
set_option maxHeartbeats 2000000 in
theorem puts_any (n : Nat) (hn : n < 18446744073709551616) (B : Option Addr) (cap : Nat) (ys : List Int) (hw : Wf8 ys) (hl : ys.length ≤ 140737488351232) (w : World) (hr : ReadsInt w .u8 B ys.length ys) :
    Calls Try.prog 10 #[.int .u64 (n : Int), .slice B ys.length cap] w fun e w' => e = .returned (.bool true) ∧ Below w.heap.size w w' := by
  have HB := Lib.hid (Below.refl w.heap.size w)
  have HR := Lib.hid hr
  have HN := Lib.hid hl
  have tok0 : True := trivial
  obtain ⟨⟨SS, k⟩, hS⟩ : ∃ S, S = seals n ys := ⟨_, rfl⟩
  have HS : Hid (SS.length = 64) := Lib.hid (by have h := seals_length n ys; rwa [← hS] at h)
  have P1 := Lib.hid (put_b hn hw hS.symm)
  have P2 := Lib.hid (rput_b hn hw hS.symm)
  clear hr hl hS hw
  go_enter Try.func10, Try.ntmps10
  go_wp2_with (first
    | (go_at_call 33; refine (wide_b B cap ys _ HR.out HN.out).mono ?_; rintro e w1 ⟨⟨g, rfl, r1⟩, hb1⟩; have W1 := Lib.hid r1; replace HB := Lib.hid (below_ext HB.out hb1); have hz1 := hb1.size; clear hb1; have HC := Lib.hid (Below.refl w1.heap.size w1))
    | (go_at_call 56; refine (P1.out _ _ _ (S.wid_reads (W1.out.below HC.out))).mono ?_; rintro e w2 ⟨rfl, hb2⟩; replace HB := Lib.hid (below_ext HB.out hb2); replace HC := Lib.hid (below_ext HC.out hb2); have hz2 := hb2.size; clear hb2)
    | (have _t := tok0; refine blkAlloc rfl rfl ?_; intro w3 hk hb3 hz3; replace HB := Lib.hid (below_ext HB.out hb3); replace HC := Lib.hid (below_ext HC.out hb3); have KA := Lib.hid hk; have tok1 : True := trivial; clear hk hb3 _t tok0)
    | (refine blkStore rfl (.tmp 6) (.tmp 16) rfl KA.out rfl rfl HS.out ?_; intro w4 hk hg; replace HB := Lib.hid (below_at HB.out hg (by omega) KA.out.lt); replace HC := Lib.hid (below_at HC.out hg (by omega) KA.out.lt); replace KA := Lib.hid hk; have hz4 := hg.size; clear hk hg)
    | (go_at_call 57; refine (P2.out _ _ _ (HR.out.below HB.out)).mono ?_; rintro e w5 ⟨rfl, hb5⟩; replace KA := Lib.hid (KA.out.below hb5); replace HB := Lib.hid (below_ext HB.out hb5); replace HC := Lib.hid (below_ext HC.out hb5); have hz5 := hb5.size; clear hb5)
    | (have _t := tok1; refine blkAlloc rfl rfl ?_; intro w6 hk hb6 hz6; replace KA := Lib.hid (KA.out.below hb6); replace HB := Lib.hid (below_ext HB.out hb6); replace HC := Lib.hid (below_ext HC.out hb6); have KB := Lib.hid hk; have tok2 : True := trivial; clear hk hb6 _t tok1)
    | (refine blkStore rfl (.tmp 8) (.tmp 22) rfl KB.out rfl rfl HS.out ?_; intro w7 hk hg; replace HB := Lib.hid (below_at HB.out hg (by omega) KB.out.lt); replace HC := Lib.hid (below_at HC.out hg (by omega) KB.out.lt); replace KA := Lib.hid (KA.out.grown hg (by omega)); replace KB := Lib.hid hk; have hz7 := hg.size; clear hk hg)
    | (refine blkLoad rfl (.tmp 6) rfl KA.out rfl ?_)
    | (refine blkLoad rfl (.tmp 8) rfl KB.out rfl ?_)
    | (refine blkEql rfl (.tmp 24) (.tmp 25) _ rfl rfl rfl HS.out HS.out true (by simp) ?_)
    | (go_at_call 40; refine (left_b g B cap ys _ (W1.out.below HC.out) (HR.out.below HB.out) HN.out).mono ?_; rintro e w8 ⟨rfl, hb8⟩; replace KA := Lib.hid (KA.out.below hb8); replace KB := Lib.hid (KB.out.below hb8); replace HB := Lib.hid (below_ext HB.out hb8); replace HC := Lib.hid (below_ext HC.out hb8); have hz8 := hb8.size; clear hb8)
    | (go_at_call 58; refine (lives_any _).mono ?_; rintro e w9 ⟨rfl, hb9⟩; replace HB := Lib.hid (below_ext HB.out hb9); replace HC := Lib.hid (below_ext HC.out hb9); clear hb9))
  go_ret
  exact ⟨ret_b (by simp), HB.out⟩
theorem puts_any' (n : Int) (wn : (Lit.int .u64 n).wf = true) (B : Option Addr) (cap : Nat) (l : List Int) {w : World} (hr : ReadsInt w .u8 B l.length l) (y : l.length * 1 ≤ 140737488351232) (hw : ∀ x ∈ l, (Lit.int .u8 x).wf = true) (hc : l.length ≤ cap) :
    Calls Try.prog 10 #[.int .u64 n, .slice B l.length cap] w fun e w' => e = .returned (.bool true) ∧ Below w.heap.size w w' := by
  obtain ⟨n, rfl, hn⟩ := u64_nat wn
  exact puts_any n hn B cap l hw (by omega) w hr
theorem news_sealed {n m : Nat} {a b : List Int} (hn : n < 18446744073709551616) (hm : m < 18446744073709551616) (h0 : n ≠ 0) (k0 : m ≠ 0) (hl : a.length ≤ 44) (kl : b.length ≤ 44) : news (sealed n a) (sealed m b) = (if n < m then 1 else 0, 0) := by
  rw [news, gots_sealed h0 hn hl, gots_sealed k0 hm kl]
  by_cases h : n < m <;> simp [h]
theorem seals_err {n : Nat} {ys : List Int} {S : List Int} {k : Int} (h : seals n ys = (S, k)) : (k = 0 ∧ n ≠ 0 ∧ ys.length ≤ 44 ∧ S = sealed n ys) ∨ (k = 2 ∧ n = 0) ∨ (k = 3 ∧ n ≠ 0 ∧ 44 < ys.length) := by
  unfold seals at h
  split at h
  · injection h with h1 h2; exact .inr (.inl ⟨h2.symm, by assumption⟩)
  · split at h
    · injection h with h1 h2; exact .inr (.inr ⟨h2.symm, by assumption, by assumption⟩)
    · injection h with h1 h2; exact .inl ⟨h2.symm, by assumption, by omega, h1.symm⟩
set_option maxRecDepth 100000 in
set_option maxHeartbeats 4000000 in
theorem newest_any (n m : Nat) (hn : n < 18446744073709551616) (hm : m < 18446744073709551616) (A : Option Addr) (ca : Nat) (a : List Int) (ha : Wf8 a) (B : Option Addr) (cb : Nat) (b : List Int) (hb : Wf8 b) (z : List Int) (hz : z.length = 64) (hwz : Wf8 z) (w : World) (hra : ReadsInt w .u8 A a.length a) (hrb : ReadsInt w .u8 B b.length b) :
    Calls Try.prog 15 #[.int .u64 (n : Int), .int .u64 (m : Int), .slice A a.length ca, .slice B b.length cb, blk z] w fun e w' => e = .returned (.bool true) ∧ Below w.heap.size w w' := by
  have HB := Lib.hid (Below.refl w.heap.size w)
  have HA := Lib.hid hra
  have HR := Lib.hid hrb
  have HZ := Lib.hid hz
  have tok0 : True := trivial
  have tokN : True := trivial
  obtain ⟨⟨X, e⟩, hX⟩ : ∃ S, S = seals n a := ⟨_, rfl⟩
  obtain ⟨⟨Y, f⟩, hY⟩ : ∃ S, S = seals m b := ⟨_, rfl⟩
  have hXl : X.length = 64 := by have h := seals_length n a; rwa [← hX] at h
  have hYl : Y.length = 64 := by have h := seals_length m b; rwa [← hY] at h
  have hXw : Wf8 X := by have h := seals_wf n ha; rwa [← hX] at h
  have hYw : Wf8 Y := by have h := seals_wf m hb; rwa [← hY] at h
  have HX := Lib.hid hXl
  have HY := Lib.hid hYl
  have P1 := Lib.hid (put_b hn ha hX.symm)
  have P2 := Lib.hid (put_b hm hb hY.symm)
  by_cases hef : e = 0 ∧ f = 0
  · obtain ⟨rfl, rfl⟩ := hef
    rcases seals_err hX.symm with ⟨_, h0, hla, hX2⟩ | ⟨h, _⟩ | ⟨h, _⟩
    · rcases seals_err hY.symm with ⟨_, k0, hlb, hY2⟩ | ⟨h, _⟩ | ⟨h, _⟩
      · have P3 : Hid (∀ w : World, Calls Try.prog 61 #[blk X, blk Y] w fun e w' => e = .returned (.tuple #[.int .i64 (if n < m then 1 else 0), .int .i64 0]) ∧ Below w.heap.size w w') := Lib.hid fun w => by
          have h := Newest_any X Y hXl hXw hYl hYw w
          rw [show news X Y = (if n < m then 1 else 0, 0) by rw [hX2, hY2]; exact news_sealed hn hm h0 k0 hla hlb] at h
          exact h
        obtain ⟨k, hk⟩ : ∃ k, k = (gots z).2.2 := ⟨_, rfl⟩
        have P4 := Lib.hid (show GetN z (gots z).1 k from by rw [hk]; exact get_n hz hwz)
        have hgl := gots_lt hwz
        by_cases hk0 : k = 0
        · have e0 : (k == 0) = true := by simp [hk0]
          clear hX hY hXl hYl hXw hYw hX2 hY2 hk hk0 ha hb hz hwz hra hrb hla hlb h0 k0
          by_cases hnm : n < m
          all_goals
            simp only [hnm, if_true, if_false] at P3
            go_enter Try.func15, Try.ntmps15
            go_wp2_with (first
              | (refine blkBox rfl (.tmp 4) rfl rfl HZ.out ?_; intro w1 hk hb1 hz1; replace HB := Lib.hid (below_ext HB.out hb1); have KZ := Lib.hid hk; clear hk hb1)
              | (go_at_call_of 56 (Value.int .u64 (n : Int)); refine (P1.out _ _ _ (HA.out.below HB.out)).mono ?_; rintro e w2 ⟨rfl, hb2⟩; replace KZ := Lib.hid (KZ.out.below hb2); replace HB := Lib.hid (below_ext HB.out hb2); have hz2 := hb2.size; clear hb2)
              | (have _t := tok0; refine blkAlloc rfl rfl ?_; intro w3 hk hb3 hz3; replace KZ := Lib.hid (KZ.out.below hb3); replace HB := Lib.hid (below_ext HB.out hb3); have KA := Lib.hid hk; have tok1 : True := trivial; clear hk hb3 _t tok0)
              | (refine blkStore rfl (.tmp 11) (.tmp 30) rfl KA.out rfl rfl HX.out ?_; intro w4 hk hg; replace HB := Lib.hid (below_at HB.out hg (by omega) KA.out.lt); replace KZ := Lib.hid (KZ.out.grown hg (by omega)); replace KA := Lib.hid hk; have hz4 := hg.size; clear hk hg)
              | (go_at_call 56; refine (P2.out _ _ _ (HR.out.below HB.out)).mono ?_; rintro e w5 ⟨rfl, hb5⟩; replace KZ := Lib.hid (KZ.out.below hb5); replace KA := Lib.hid (KA.out.below hb5); replace HB := Lib.hid (below_ext HB.out hb5); have hz5 := hb5.size; clear hb5)
              | (have _t := tok1; refine blkAlloc rfl rfl ?_; intro w6 hk hb6 hz6; replace KZ := Lib.hid (KZ.out.below hb6); replace KA := Lib.hid (KA.out.below hb6); replace HB := Lib.hid (below_ext HB.out hb6); have KB := Lib.hid hk; have tok2 : True := trivial; clear hk hb6 _t tok1)
              | (refine blkStore rfl (.tmp 13) (.tmp 36) rfl KB.out rfl rfl HY.out ?_; intro w7 hk hg; replace HB := Lib.hid (below_at HB.out hg (by omega) KB.out.lt); replace KZ := Lib.hid (KZ.out.grown hg (by omega)); replace KA := Lib.hid (KA.out.grown hg (by omega)); replace KB := Lib.hid hk; have hz7 := hg.size; clear hk hg)
              | (refine blkLoad rfl (.tmp 9) rfl KZ.out rfl ?_)
              | (refine blkLoad rfl (.tmp 11) rfl KA.out rfl ?_)
              | (refine blkLoad rfl (.tmp 13) rfl KB.out rfl ?_)
              | (have _t := tokN; go_at_call_of 61 (blk X); refine (P3.out _).mono ?_; rintro e w8 ⟨rfl, hb8⟩; replace KZ := Lib.hid (KZ.out.below hb8); replace KA := Lib.hid (KA.out.below hb8); replace KB := Lib.hid (KB.out.below hb8); replace HB := Lib.hid (below_ext HB.out hb8); have hz8 := hb8.size; clear hb8; clear tokN _t)
              | (go_at_call 59; refine (P4.out _).mono ?_; rintro e w9 ⟨⟨A4, c4, l4, rfl⟩, hb9⟩; replace KZ := Lib.hid (KZ.out.below hb9); replace KA := Lib.hid (KA.out.below hb9); replace KB := Lib.hid (KB.out.below hb9); replace HB := Lib.hid (below_ext HB.out hb9); have hz9 := hb9.size; clear hb9)
              | (go_at_call 58; refine (lives_any _).mono ?_; rintro e w10 ⟨rfl, hb10⟩; replace HB := Lib.hid (below_ext HB.out hb10); clear hb10))
            go_ret
            exact ⟨ret_b (by simp), HB.out⟩
        · have e0 : (k == 0) = false := by simpa using hk0
          have hgx : gots X = (n, a ++ Z (44 - a.length), 0) := by rw [hX2]; exact gots_sealed h0 hn hla
          have hgy : gots Y = (m, b ++ Z (44 - b.length), 0) := by rw [hY2]; exact gots_sealed k0 hm hlb
          have P5 : Hid (∀ w : World, Calls Try.prog 61 #[blk z, blk Y] w fun e w' => e = .returned (.tuple #[.int .i64 1, .int .i64 0]) ∧ Below w.heap.size w w') := Lib.hid fun w => by
            have h := Newest_any z Y hz hwz hYl hYw w
            rw [show news z Y = (1, 0) by rw [news, hgy, ← hk]; simp [hk0]] at h
            exact h
          have P6 : Hid (∀ w : World, Calls Try.prog 61 #[blk X, blk z] w fun e w' => e = .returned (.tuple #[.int .i64 0, .int .i64 0]) ∧ Below w.heap.size w w') := Lib.hid fun w => by
            have h := Newest_any X z hXl hXw hz hwz w
            rw [show news X z = (0, 0) by rw [news, hgx, ← hk]; simp [hk0]] at h
            exact h
          have P7 : Hid (∀ w : World, Calls Try.prog 61 #[blk z, blk z] w fun e w' => e = .returned (.tuple #[.int .i64 0, .int .i64 7]) ∧ Below w.heap.size w w') := Lib.hid fun w => by
            have h := Newest_any z z hz hwz hz hwz w
            rw [show news z z = (0, 7) by rw [news, ← hk]; simp [hk0]] at h
            exact h
          clear hX hY hXl hYl hXw hYw hX2 hY2 hk hk0 ha hb hz hwz hra hrb hla hlb h0 k0 hgx hgy
          by_cases hnm : n < m
          all_goals
            simp only [hnm, if_true, if_false] at P3
            go_enter Try.func15, Try.ntmps15
            go_wp2_with (first
              | (refine blkBox rfl (.tmp 4) rfl rfl HZ.out ?_; intro w1 hk hb1 hz1; replace HB := Lib.hid (below_ext HB.out hb1); have KZ := Lib.hid hk; clear hk hb1)
              | (go_at_call_of 56 (Value.int .u64 (n : Int)); refine (P1.out _ _ _ (HA.out.below HB.out)).mono ?_; rintro e w2 ⟨rfl, hb2⟩; replace KZ := Lib.hid (KZ.out.below hb2); replace HB := Lib.hid (below_ext HB.out hb2); have hz2 := hb2.size; clear hb2)
              | (have _t := tok0; refine blkAlloc rfl rfl ?_; intro w3 hk hb3 hz3; replace KZ := Lib.hid (KZ.out.below hb3); replace HB := Lib.hid (below_ext HB.out hb3); have KA := Lib.hid hk; have tok1 : True := trivial; clear hk hb3 _t tok0)
              | (refine blkStore rfl (.tmp 11) (.tmp 30) rfl KA.out rfl rfl HX.out ?_; intro w4 hk hg; replace HB := Lib.hid (below_at HB.out hg (by omega) KA.out.lt); replace KZ := Lib.hid (KZ.out.grown hg (by omega)); replace KA := Lib.hid hk; have hz4 := hg.size; clear hk hg)
              | (go_at_call 56; refine (P2.out _ _ _ (HR.out.below HB.out)).mono ?_; rintro e w5 ⟨rfl, hb5⟩; replace KZ := Lib.hid (KZ.out.below hb5); replace KA := Lib.hid (KA.out.below hb5); replace HB := Lib.hid (below_ext HB.out hb5); have hz5 := hb5.size; clear hb5)
              | (have _t := tok1; refine blkAlloc rfl rfl ?_; intro w6 hk hb6 hz6; replace KZ := Lib.hid (KZ.out.below hb6); replace KA := Lib.hid (KA.out.below hb6); replace HB := Lib.hid (below_ext HB.out hb6); have KB := Lib.hid hk; have tok2 : True := trivial; clear hk hb6 _t tok1)
              | (refine blkStore rfl (.tmp 13) (.tmp 36) rfl KB.out rfl rfl HY.out ?_; intro w7 hk hg; replace HB := Lib.hid (below_at HB.out hg (by omega) KB.out.lt); replace KZ := Lib.hid (KZ.out.grown hg (by omega)); replace KA := Lib.hid (KA.out.grown hg (by omega)); replace KB := Lib.hid hk; have hz7 := hg.size; clear hk hg)
              | (refine blkLoad rfl (.tmp 9) rfl KZ.out rfl ?_)
              | (refine blkLoad rfl (.tmp 11) rfl KA.out rfl ?_)
              | (refine blkLoad rfl (.tmp 13) rfl KB.out rfl ?_)
              | (have _t := tokN; go_at_call_of 61 (blk X); refine (P3.out _).mono ?_; rintro e w8 ⟨rfl, hb8⟩; replace KZ := Lib.hid (KZ.out.below hb8); replace KA := Lib.hid (KA.out.below hb8); replace KB := Lib.hid (KB.out.below hb8); replace HB := Lib.hid (below_ext HB.out hb8); have hz8 := hb8.size; clear hb8; clear tokN _t)
              | (go_at_call 59; refine (P4.out _).mono ?_; rintro e w9 ⟨⟨A4, c4, l4, rfl⟩, hb9⟩; replace KZ := Lib.hid (KZ.out.below hb9); replace KA := Lib.hid (KA.out.below hb9); replace KB := Lib.hid (KB.out.below hb9); replace HB := Lib.hid (below_ext HB.out hb9); have hz9 := hb9.size; clear hb9)
              | (go_at_call_of 61 (blk Y); refine (P5.out _).mono ?_; rintro e w10 ⟨rfl, hb10⟩; replace KZ := Lib.hid (KZ.out.below hb10); replace KA := Lib.hid (KA.out.below hb10); replace KB := Lib.hid (KB.out.below hb10); replace HB := Lib.hid (below_ext HB.out hb10); have hz10 := hb10.size; clear hb10)
              | (go_at_call_of 61 (blk X); refine (P6.out _).mono ?_; rintro e w11 ⟨rfl, hb11⟩; replace KZ := Lib.hid (KZ.out.below hb11); replace KA := Lib.hid (KA.out.below hb11); replace KB := Lib.hid (KB.out.below hb11); replace HB := Lib.hid (below_ext HB.out hb11); have hz11 := hb11.size; clear hb11)
              | (go_at_call 61; refine (P7.out _).mono ?_; rintro e w12 ⟨rfl, hb12⟩; replace KZ := Lib.hid (KZ.out.below hb12); replace KA := Lib.hid (KA.out.below hb12); replace KB := Lib.hid (KB.out.below hb12); replace HB := Lib.hid (below_ext HB.out hb12); have hz12 := hb12.size; clear hb12)
              | (go_at_call 58; refine (lives_any _).mono ?_; rintro e w13 ⟨rfl, hb13⟩; replace HB := Lib.hid (below_ext HB.out hb13); clear hb13))
            go_ret
            exact ⟨ret_b (by simp), HB.out⟩
      · cases h
      · cases h
    · cases h
    · cases h
  · rcases (by omega : e ≠ 0 ∨ (e = 0 ∧ f ≠ 0)) with h | ⟨h, h2⟩
    · have e1 : (e != 0) = true := by simpa using h
      clear hX hY hXl hYl hXw hYw ha hb hz hwz hra hrb h hef
      go_enter Try.func15, Try.ntmps15
      go_wp2_with (first
        | (refine blkBox rfl (.tmp 4) rfl rfl HZ.out ?_; intro w1 hk hb1 hz1; replace HB := Lib.hid (below_ext HB.out hb1); have KZ := Lib.hid hk; clear hk hb1)
        | (go_at_call_of 56 (Value.int .u64 (n : Int)); refine (P1.out _ _ _ (HA.out.below HB.out)).mono ?_; rintro e w2 ⟨rfl, hb2⟩; replace KZ := Lib.hid (KZ.out.below hb2); replace HB := Lib.hid (below_ext HB.out hb2); have hz2 := hb2.size; clear hb2)
        | (have _t := tok0; refine blkAlloc rfl rfl ?_; intro w3 hk hb3 hz3; replace KZ := Lib.hid (KZ.out.below hb3); replace HB := Lib.hid (below_ext HB.out hb3); have KA := Lib.hid hk; have tok1 : True := trivial; clear hk hb3 _t tok0)
        | (refine blkStore rfl (.tmp 11) (.tmp 30) rfl KA.out rfl rfl HX.out ?_; intro w4 hk hg; replace HB := Lib.hid (below_at HB.out hg (by omega) KA.out.lt); replace KZ := Lib.hid (KZ.out.grown hg (by omega)); replace KA := Lib.hid hk; have hz4 := hg.size; clear hk hg)
        | (go_at_call 56; refine (P2.out _ _ _ (HR.out.below HB.out)).mono ?_; rintro e w5 ⟨rfl, hb5⟩; replace KZ := Lib.hid (KZ.out.below hb5); replace KA := Lib.hid (KA.out.below hb5); replace HB := Lib.hid (below_ext HB.out hb5); have hz5 := hb5.size; clear hb5)
        | (have _t := tok1; refine blkAlloc rfl rfl ?_; intro w6 hk hb6 hz6; replace KZ := Lib.hid (KZ.out.below hb6); replace KA := Lib.hid (KA.out.below hb6); replace HB := Lib.hid (below_ext HB.out hb6); have KB := Lib.hid hk; have tok2 : True := trivial; clear hk hb6 _t tok1)
        | (refine blkStore rfl (.tmp 13) (.tmp 36) rfl KB.out rfl rfl HY.out ?_; intro w7 hk hg; replace HB := Lib.hid (below_at HB.out hg (by omega) KB.out.lt); replace KZ := Lib.hid (KZ.out.grown hg (by omega)); replace KA := Lib.hid (KA.out.grown hg (by omega)); replace KB := Lib.hid hk; have hz7 := hg.size; clear hk hg)
        | (go_at_call 58; refine (lives_any _).mono ?_; rintro e w8 ⟨rfl, hb8⟩; replace HB := Lib.hid (below_ext HB.out hb8); clear hb8))
      go_ret
      exact ⟨ret_b (by simp), HB.out⟩
    · have e1 : (e != 0) = false := by simp [h]
      have e2 : (f != 0) = true := by simpa using h2
      clear hX hY hXl hYl hXw hYw ha hb hz hwz hra hrb h h2 hef
      go_enter Try.func15, Try.ntmps15
      go_wp2_with (first
        | (refine blkBox rfl (.tmp 4) rfl rfl HZ.out ?_; intro w1 hk hb1 hz1; replace HB := Lib.hid (below_ext HB.out hb1); have KZ := Lib.hid hk; clear hk hb1)
        | (go_at_call_of 56 (Value.int .u64 (n : Int)); refine (P1.out _ _ _ (HA.out.below HB.out)).mono ?_; rintro e w2 ⟨rfl, hb2⟩; replace KZ := Lib.hid (KZ.out.below hb2); replace HB := Lib.hid (below_ext HB.out hb2); have hz2 := hb2.size; clear hb2)
        | (have _t := tok0; refine blkAlloc rfl rfl ?_; intro w3 hk hb3 hz3; replace KZ := Lib.hid (KZ.out.below hb3); replace HB := Lib.hid (below_ext HB.out hb3); have KA := Lib.hid hk; have tok1 : True := trivial; clear hk hb3 _t tok0)
        | (refine blkStore rfl (.tmp 11) (.tmp 30) rfl KA.out rfl rfl HX.out ?_; intro w4 hk hg; replace HB := Lib.hid (below_at HB.out hg (by omega) KA.out.lt); replace KZ := Lib.hid (KZ.out.grown hg (by omega)); replace KA := Lib.hid hk; have hz4 := hg.size; clear hk hg)
        | (go_at_call 56; refine (P2.out _ _ _ (HR.out.below HB.out)).mono ?_; rintro e w5 ⟨rfl, hb5⟩; replace KZ := Lib.hid (KZ.out.below hb5); replace KA := Lib.hid (KA.out.below hb5); replace HB := Lib.hid (below_ext HB.out hb5); have hz5 := hb5.size; clear hb5)
        | (have _t := tok1; refine blkAlloc rfl rfl ?_; intro w6 hk hb6 hz6; replace KZ := Lib.hid (KZ.out.below hb6); replace KA := Lib.hid (KA.out.below hb6); replace HB := Lib.hid (below_ext HB.out hb6); have KB := Lib.hid hk; have tok2 : True := trivial; clear hk hb6 _t tok1)
        | (refine blkStore rfl (.tmp 13) (.tmp 36) rfl KB.out rfl rfl HY.out ?_; intro w7 hk hg; replace HB := Lib.hid (below_at HB.out hg (by omega) KB.out.lt); replace KZ := Lib.hid (KZ.out.grown hg (by omega)); replace KA := Lib.hid (KA.out.grown hg (by omega)); replace KB := Lib.hid hk; have hz7 := hg.size; clear hk hg)
        | (go_at_call 58; refine (lives_any _).mono ?_; rintro e w8 ⟨rfl, hb8⟩; replace HB := Lib.hid (below_ext HB.out hb8); clear hb8))
      go_ret
      exact ⟨ret_b (by simp), HB.out⟩
theorem newest_any' (n : Int) (wn : (Lit.int .u64 n).wf = true) (m : Int) (wm : (Lit.int .u64 m).wf = true) (A : Option Addr) (ca : Nat) (a : List Int) {w : World} (hra : ReadsInt w .u8 A a.length a) (y : a.length * 1 ≤ 140737488351232) (ha : ∀ x ∈ a, (Lit.int .u8 x).wf = true) (hc : a.length ≤ ca)
    (B : Option Addr) (cb : Nat) (b : List Int) (hrb : ReadsInt w .u8 B b.length b) (y2 : b.length * 1 ≤ 140737488351232) (hb : ∀ x ∈ b, (Lit.int .u8 x).wf = true) (hc2 : b.length ≤ cb) (z : List Int) (hz : z.length = 64) (hwz : ∀ x ∈ z, (Lit.int .u8 x).wf = true) :
    Calls Try.prog 15 #[.int .u64 n, .int .u64 m, .slice A a.length ca, .slice B b.length cb, .agg (z.map fun x => Value.int .u8 x).toArray] w fun e w' => e = .returned (.bool true) ∧ Below w.heap.size w w' := by
  obtain ⟨n, rfl, hn⟩ := u64_nat wn
  obtain ⟨m, rfl, hm⟩ := u64_nat wm
  exact newest_any n m hn hm A ca a ha B cb b hb z hz hwz w hra hrb
end Go.Proofs.Ytdchcggllcgokaa.E
