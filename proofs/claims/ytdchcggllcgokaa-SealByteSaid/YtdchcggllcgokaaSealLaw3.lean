/-
  ashlarlaw07.SealTorn: the walk.
-/
import Derived.Test.YtdchcggllcgokaaSealLaw2
namespace Go.Proofs.Ytdchcggllcgokaa.E
open Go.RowKit Go.Proofs.Ytdchcggllcgokaa.L Go.Proofs.Ytdchcggllcgokaa.U Go.Proofs.Ytdchcggllcgokaa.R Go.Proofs.YtdchcggllcgokaaW.PrintWords
set_option linter.unusedVariables false
set_option linter.unusedSimpArgs false

set_option maxRecDepth 100000 in
set_option maxHeartbeats 2000000 in
theorem torn_1 (n m : Nat) (hn : n < 18446744073709551616) (hm : m < 18446744073709551616) (B : Option Addr) (cap : Nat) (ys : List Int) (C : Option Addr) (cap2 : Nat) (zs : List Int) (q : Int) (hq : -9223372036854775808 ≤ q ∧ q ≤ 9223372036854775807) (w : World) (hr : ReadsInt w .u8 B ys.length ys) (hr2 : ReadsInt w .u8 C zs.length zs)
    (X : List Int) (HX : Hid (X.length = 64)) (e : Int) (he : (e != 0) = true) (P1 : Hid (PutB n ys X e)) :
    Calls Try.prog 13 #[.int .u64 (n : Int), .int .u64 (m : Int), .slice B ys.length cap, .slice C zs.length cap2, .int .i64 q] w fun e w' => e = .returned (.bool true) ∧ Below w.heap.size w w' := by
  have HB := Lib.hid (Below.refl w.heap.size w)
  have HR := Lib.hid hr
  have HZ := Lib.hid hr2
  have tok0 : True := trivial
  obtain ⟨q1, q2⟩ := hq
  clear hr hr2
  go_enter Try.func13, Try.ntmps13
  go_wp2_with (first
    | (go_skip)
    | (go_at_call_of 56 (Value.int .u64 (n : Int)); refine (P1.out _ _ _ (HR.out.below HB.out)).mono ?_; rintro e w1 ⟨rfl, hb1⟩; replace HB := Lib.hid (below_ext HB.out hb1); have hz1 := hb1.size; clear hb1)
    | (have _t := tok0; refine blkAlloc rfl rfl ?_; intro w2 hk hb2 hz2; replace HB := Lib.hid (below_ext HB.out hb2); have KA := Lib.hid hk; have tok1 : True := trivial; clear hk hb2 _t tok0)
    | (refine blkStore rfl (.tmp 11) (.tmp 24) rfl KA.out rfl rfl HX.out ?_; intro w3 hk hg; replace HB := Lib.hid (below_at HB.out hg (by omega) KA.out.lt); replace KA := Lib.hid hk; have hz3 := hg.size; clear hk hg)
    | (go_at_call 58; refine (lives_any _).mono ?_; rintro e w4 ⟨rfl, hb4⟩; replace HB := Lib.hid (below_ext HB.out hb4); clear hb4))
  go_ret
  exact ⟨ret_b (by simp), HB.out⟩
set_option maxRecDepth 100000 in
set_option maxHeartbeats 2000000 in
theorem torn_2 (n m : Nat) (hn : n < 18446744073709551616) (hm : m < 18446744073709551616) (B : Option Addr) (cap : Nat) (ys : List Int) (C : Option Addr) (cap2 : Nat) (zs : List Int) (q : Int) (hq : -9223372036854775808 ≤ q ∧ q ≤ 9223372036854775807) (w : World) (hr : ReadsInt w .u8 B ys.length ys) (hr2 : ReadsInt w .u8 C zs.length zs)
    (X : List Int) (HX : Hid (X.length = 64)) (hnm : ((n : Int) == (m : Int)) = true) (P1 : Hid (PutB n ys X 0)) :
    Calls Try.prog 13 #[.int .u64 (n : Int), .int .u64 (m : Int), .slice B ys.length cap, .slice C zs.length cap2, .int .i64 q] w fun e w' => e = .returned (.bool true) ∧ Below w.heap.size w w' := by
  have HB := Lib.hid (Below.refl w.heap.size w)
  have HR := Lib.hid hr
  have HZ := Lib.hid hr2
  have tok0 : True := trivial
  obtain ⟨q1, q2⟩ := hq
  clear hr hr2
  go_enter Try.func13, Try.ntmps13
  go_wp2_with (first
    | (go_skip)
    | (go_at_call_of 56 (Value.int .u64 (n : Int)); refine (P1.out _ _ _ (HR.out.below HB.out)).mono ?_; rintro e w1 ⟨rfl, hb1⟩; replace HB := Lib.hid (below_ext HB.out hb1); have hz1 := hb1.size; clear hb1)
    | (have _t := tok0; refine blkAlloc rfl rfl ?_; intro w2 hk hb2 hz2; replace HB := Lib.hid (below_ext HB.out hb2); have KA := Lib.hid hk; have tok1 : True := trivial; clear hk hb2 _t tok0)
    | (refine blkStore rfl (.tmp 11) (.tmp 24) rfl KA.out rfl rfl HX.out ?_; intro w3 hk hg; replace HB := Lib.hid (below_at HB.out hg (by omega) KA.out.lt); replace KA := Lib.hid hk; have hz3 := hg.size; clear hk hg)
    | (go_at_call 58; refine (lives_any _).mono ?_; rintro e w4 ⟨rfl, hb4⟩; replace HB := Lib.hid (below_ext HB.out hb4); clear hb4))
  go_ret
  exact ⟨ret_b (by simp), HB.out⟩
set_option maxRecDepth 100000 in
set_option maxHeartbeats 2000000 in
theorem torn_3 (n m : Nat) (hn : n < 18446744073709551616) (hm : m < 18446744073709551616) (B : Option Addr) (cap : Nat) (ys : List Int) (C : Option Addr) (cap2 : Nat) (zs : List Int) (q : Int) (hq : -9223372036854775808 ≤ q ∧ q ≤ 9223372036854775807) (w : World) (hr : ReadsInt w .u8 B ys.length ys) (hr2 : ReadsInt w .u8 C zs.length zs)
    (X : List Int) (HX : Hid (X.length = 64)) (hnm : ((n : Int) == (m : Int)) = false) (h0 : 0 < m) (f : Int) (hf : (f != 0) = true) (P1 : Hid (PutB n ys X 0)) (Y : List Int) (HY : Hid (Y.length = 64)) (P2 : Hid (PutB m zs Y f)) :
    Calls Try.prog 13 #[.int .u64 (n : Int), .int .u64 (m : Int), .slice B ys.length cap, .slice C zs.length cap2, .int .i64 q] w fun e w' => e = .returned (.bool true) ∧ Below w.heap.size w w' := by
  have HB := Lib.hid (Below.refl w.heap.size w)
  have HR := Lib.hid hr
  have HZ := Lib.hid hr2
  have tok0 : True := trivial
  obtain ⟨q1, q2⟩ := hq
  clear hr hr2
  go_enter Try.func13, Try.ntmps13
  go_wp2_with (first
    | (go_skip)
    | (go_at_call_of 56 (Value.int .u64 (n : Int)); refine (P1.out _ _ _ (HR.out.below HB.out)).mono ?_; rintro e w1 ⟨rfl, hb1⟩; replace HB := Lib.hid (below_ext HB.out hb1); have hz1 := hb1.size; clear hb1)
    | (have _t := tok0; refine blkAlloc rfl rfl ?_; intro w2 hk hb2 hz2; replace HB := Lib.hid (below_ext HB.out hb2); have KA := Lib.hid hk; have tok1 : True := trivial; clear hk hb2 _t tok0)
    | (refine blkStore rfl (.tmp 11) (.tmp 24) rfl KA.out rfl rfl HX.out ?_; intro w3 hk hg; replace HB := Lib.hid (below_at HB.out hg (by omega) KA.out.lt); replace KA := Lib.hid hk; have hz3 := hg.size; clear hk hg)
    | (refine blkBuild rfl rfl ?_)
    | (have _t := tok1; refine blkAlloc rfl rfl ?_; intro w4 hk hb4 hz4; replace KA := Lib.hid (KA.out.below hb4); replace HB := Lib.hid (below_ext HB.out hb4); have KO := Lib.hid hk; have tok2 : True := trivial; clear hk hb4 _t tok1)
    | (refine blkStore rfl (.tmp 13) (.tmp 34) rfl KO.out rfl rfl zeros_length ?_; intro w5 hk hg; replace HB := Lib.hid (below_at HB.out hg (by omega) KO.out.lt); replace KA := Lib.hid (KA.out.grown hg (by omega)); replace KO := Lib.hid hk; have hz5 := hg.size; clear hk hg)
    | (go_at_call 56; refine (P2.out _ _ _ (HZ.out.below HB.out)).mono ?_; rintro e w6 ⟨rfl, hb6⟩; replace KA := Lib.hid (KA.out.below hb6); replace KO := Lib.hid (KO.out.below hb6); replace HB := Lib.hid (below_ext HB.out hb6); have hz6 := hb6.size; clear hb6)
    | (have _t := tok2; refine blkAlloc rfl rfl ?_; intro w7 hk hb7 hz7; replace KA := Lib.hid (KA.out.below hb7); replace KO := Lib.hid (KO.out.below hb7); replace HB := Lib.hid (below_ext HB.out hb7); have KX := Lib.hid hk; have tok3 : True := trivial; clear hk hb7 _t tok2)
    | (refine blkStore rfl (.tmp 14) (.tmp 41) rfl KX.out rfl rfl HY.out ?_; intro w8 hk hg; replace HB := Lib.hid (below_at HB.out hg (by omega) KX.out.lt); replace KA := Lib.hid (KA.out.grown hg (by omega)); replace KO := Lib.hid (KO.out.grown hg (by omega)); replace KX := Lib.hid hk; have hz8 := hg.size; clear hk hg)
    | (go_at_call 58; refine (lives_any _).mono ?_; rintro e w9 ⟨rfl, hb9⟩; replace HB := Lib.hid (below_ext HB.out hb9); clear hb9))
  go_ret
  exact ⟨ret_b (by simp), HB.out⟩
set_option maxRecDepth 100000 in
set_option maxHeartbeats 2000000 in
theorem torn_4 (n m : Nat) (hn : n < 18446744073709551616) (hm : m < 18446744073709551616) (B : Option Addr) (cap : Nat) (ys : List Int) (C : Option Addr) (cap2 : Nat) (zs : List Int) (q : Int) (hq : -9223372036854775808 ≤ q ∧ q ≤ 9223372036854775807) (w : World) (hr : ReadsInt w .u8 B ys.length ys) (hr2 : ReadsInt w .u8 C zs.length zs)
    (X : List Int) (HX : Hid (X.length = 64)) (hnm : ((n : Int) == (m : Int)) = false) (h0 : 0 < m) (P1 : Hid (PutB n ys X 0)) (Y : List Int) (HY : Hid (Y.length = 64)) (P2 : Hid (PutB m zs Y 0)) (HT : Hid (X.length = 64)) (PT : Hid (∀ w : World, Calls Try.prog 63 #[blk Y, blk X, .int .i64 q] w fun e w' => e = .returned (blk X) ∧ Below w.heap.size w w')) (PG : Hid (GetN X n 0)) :
    Calls Try.prog 13 #[.int .u64 (n : Int), .int .u64 (m : Int), .slice B ys.length cap, .slice C zs.length cap2, .int .i64 q] w fun e w' => e = .returned (.bool true) ∧ Below w.heap.size w w' := by
  have HB := Lib.hid (Below.refl w.heap.size w)
  have HR := Lib.hid hr
  have HZ := Lib.hid hr2
  have tok0 : True := trivial
  obtain ⟨q1, q2⟩ := hq
  clear hr hr2
  go_enter Try.func13, Try.ntmps13
  go_wp2_with (first
    | (go_skip)
    | (go_at_call_of 56 (Value.int .u64 (n : Int)); refine (P1.out _ _ _ (HR.out.below HB.out)).mono ?_; rintro e w1 ⟨rfl, hb1⟩; replace HB := Lib.hid (below_ext HB.out hb1); have hz1 := hb1.size; clear hb1)
    | (have _t := tok0; refine blkAlloc rfl rfl ?_; intro w2 hk hb2 hz2; replace HB := Lib.hid (below_ext HB.out hb2); have KA := Lib.hid hk; have tok1 : True := trivial; clear hk hb2 _t tok0)
    | (refine blkStore rfl (.tmp 11) (.tmp 24) rfl KA.out rfl rfl HX.out ?_; intro w3 hk hg; replace HB := Lib.hid (below_at HB.out hg (by omega) KA.out.lt); replace KA := Lib.hid hk; have hz3 := hg.size; clear hk hg)
    | (refine blkBuild rfl rfl ?_)
    | (have _t := tok1; refine blkAlloc rfl rfl ?_; intro w4 hk hb4 hz4; replace KA := Lib.hid (KA.out.below hb4); replace HB := Lib.hid (below_ext HB.out hb4); have KO := Lib.hid hk; have tok2 : True := trivial; clear hk hb4 _t tok1)
    | (refine blkStore rfl (.tmp 13) (.tmp 34) rfl KO.out rfl rfl zeros_length ?_; intro w5 hk hg; replace HB := Lib.hid (below_at HB.out hg (by omega) KO.out.lt); replace KA := Lib.hid (KA.out.grown hg (by omega)); replace KO := Lib.hid hk; have hz5 := hg.size; clear hk hg)
    | (go_at_call 56; refine (P2.out _ _ _ (HZ.out.below HB.out)).mono ?_; rintro e w6 ⟨rfl, hb6⟩; replace KA := Lib.hid (KA.out.below hb6); replace KO := Lib.hid (KO.out.below hb6); replace HB := Lib.hid (below_ext HB.out hb6); have hz6 := hb6.size; clear hb6)
    | (have _t := tok2; refine blkAlloc rfl rfl ?_; intro w7 hk hb7 hz7; replace KA := Lib.hid (KA.out.below hb7); replace KO := Lib.hid (KO.out.below hb7); replace HB := Lib.hid (below_ext HB.out hb7); have KX := Lib.hid hk; have tok3 : True := trivial; clear hk hb7 _t tok2)
    | (refine blkStore rfl (.tmp 14) (.tmp 41) rfl KX.out rfl rfl HY.out ?_; intro w8 hk hg; replace HB := Lib.hid (below_at HB.out hg (by omega) KX.out.lt); replace KA := Lib.hid (KA.out.grown hg (by omega)); replace KO := Lib.hid (KO.out.grown hg (by omega)); replace KX := Lib.hid hk; have hz8 := hg.size; clear hk hg)
    | (refine blkLoad rfl (.tmp 14) rfl KX.out rfl ?_)
    | (refine blkStore rfl (.tmp 13) (.tmp 46) rfl KO.out rfl rfl HY.out ?_; intro w9 hk hg; replace HB := Lib.hid (below_at HB.out hg (by omega) KO.out.lt); replace KA := Lib.hid (KA.out.grown hg (by omega)); replace KX := Lib.hid (KX.out.grown hg (by omega)); replace KO := Lib.hid hk; have hz9 := hg.size; clear hk hg)
    | (refine blkLoad rfl (.tmp 13) rfl KO.out rfl ?_)
    | (refine blkLoad rfl (.tmp 11) rfl KA.out rfl ?_)
    | (go_at_call 63; refine (PT.out _).mono ?_; rintro e w10 ⟨rfl, hb10⟩; replace KA := Lib.hid (KA.out.below hb10); replace KO := Lib.hid (KO.out.below hb10); replace HB := Lib.hid (below_ext HB.out hb10); have hz10 := hb10.size; clear hb10)
    | (have _t := tok3; refine blkAlloc rfl rfl ?_; intro w11 hk hb11 hz11; replace KA := Lib.hid (KA.out.below hb11); replace KO := Lib.hid (KO.out.below hb11); replace HB := Lib.hid (below_ext HB.out hb11); have KT := Lib.hid hk; have tok4 : True := trivial; clear hk hb11 _t tok3)
    | (refine blkStore rfl (.tmp 16) (.tmp 50) rfl KT.out rfl rfl HT.out ?_; intro w12 hk hg; replace HB := Lib.hid (below_at HB.out hg (by omega) KT.out.lt); replace KA := Lib.hid (KA.out.grown hg (by omega)); replace KO := Lib.hid (KO.out.grown hg (by omega)); replace KT := Lib.hid hk; have hz12 := hg.size; clear hk hg)
    | (refine blkLoad rfl (.tmp 16) rfl KT.out rfl ?_)
    | (go_at_call 59; refine (PG.out _).mono ?_; rintro e w13 ⟨⟨A4, c4, l4, rfl⟩, hb13⟩; replace KA := Lib.hid (KA.out.below hb13); replace KO := Lib.hid (KO.out.below hb13); replace KT := Lib.hid (KT.out.below hb13); replace HB := Lib.hid (below_ext HB.out hb13); have hz13 := hb13.size; clear hb13)
    | (refine blkEql rfl (.tmp 59) (.tmp 60) _ rfl rfl rfl HX.out HX.out true (by simp) ?_)
    | (go_at_call 58; refine (lives_any _).mono ?_; rintro e w14 ⟨rfl, hb14⟩; replace HB := Lib.hid (below_ext HB.out hb14); clear hb14))
  go_ret
  exact ⟨ret_b (by simp), HB.out⟩
set_option maxRecDepth 100000 in
set_option maxHeartbeats 2000000 in
theorem torn_5 (n m : Nat) (hn : n < 18446744073709551616) (hm : m < 18446744073709551616) (B : Option Addr) (cap : Nat) (ys : List Int) (C : Option Addr) (cap2 : Nat) (zs : List Int) (q : Int) (hq : -9223372036854775808 ≤ q ∧ q ≤ 9223372036854775807) (w : World) (hr : ReadsInt w .u8 B ys.length ys) (hr2 : ReadsInt w .u8 C zs.length zs)
    (X : List Int) (HX : Hid (X.length = 64)) (hnm : ((n : Int) == (m : Int)) = false) (h0 : 0 < m) (P1 : Hid (PutB n ys X 0)) (Y : List Int) (HY : Hid (Y.length = 64)) (P2 : Hid (PutB m zs Y 0)) (HT : Hid (Y.length = 64)) (D1 : Hid (decide (Y = X) = false)) (PT : Hid (∀ w : World, Calls Try.prog 63 #[blk Y, blk X, .int .i64 q] w fun e w' => e = .returned (blk Y) ∧ Below w.heap.size w w')) (PG : Hid (GetN Y m 0)) :
    Calls Try.prog 13 #[.int .u64 (n : Int), .int .u64 (m : Int), .slice B ys.length cap, .slice C zs.length cap2, .int .i64 q] w fun e w' => e = .returned (.bool true) ∧ Below w.heap.size w w' := by
  have HB := Lib.hid (Below.refl w.heap.size w)
  have HR := Lib.hid hr
  have HZ := Lib.hid hr2
  have tok0 : True := trivial
  obtain ⟨q1, q2⟩ := hq
  clear hr hr2
  go_enter Try.func13, Try.ntmps13
  go_wp2_with (first
    | (go_skip)
    | (go_at_call_of 56 (Value.int .u64 (n : Int)); refine (P1.out _ _ _ (HR.out.below HB.out)).mono ?_; rintro e w1 ⟨rfl, hb1⟩; replace HB := Lib.hid (below_ext HB.out hb1); have hz1 := hb1.size; clear hb1)
    | (have _t := tok0; refine blkAlloc rfl rfl ?_; intro w2 hk hb2 hz2; replace HB := Lib.hid (below_ext HB.out hb2); have KA := Lib.hid hk; have tok1 : True := trivial; clear hk hb2 _t tok0)
    | (refine blkStore rfl (.tmp 11) (.tmp 24) rfl KA.out rfl rfl HX.out ?_; intro w3 hk hg; replace HB := Lib.hid (below_at HB.out hg (by omega) KA.out.lt); replace KA := Lib.hid hk; have hz3 := hg.size; clear hk hg)
    | (refine blkBuild rfl rfl ?_)
    | (have _t := tok1; refine blkAlloc rfl rfl ?_; intro w4 hk hb4 hz4; replace KA := Lib.hid (KA.out.below hb4); replace HB := Lib.hid (below_ext HB.out hb4); have KO := Lib.hid hk; have tok2 : True := trivial; clear hk hb4 _t tok1)
    | (refine blkStore rfl (.tmp 13) (.tmp 34) rfl KO.out rfl rfl zeros_length ?_; intro w5 hk hg; replace HB := Lib.hid (below_at HB.out hg (by omega) KO.out.lt); replace KA := Lib.hid (KA.out.grown hg (by omega)); replace KO := Lib.hid hk; have hz5 := hg.size; clear hk hg)
    | (go_at_call 56; refine (P2.out _ _ _ (HZ.out.below HB.out)).mono ?_; rintro e w6 ⟨rfl, hb6⟩; replace KA := Lib.hid (KA.out.below hb6); replace KO := Lib.hid (KO.out.below hb6); replace HB := Lib.hid (below_ext HB.out hb6); have hz6 := hb6.size; clear hb6)
    | (have _t := tok2; refine blkAlloc rfl rfl ?_; intro w7 hk hb7 hz7; replace KA := Lib.hid (KA.out.below hb7); replace KO := Lib.hid (KO.out.below hb7); replace HB := Lib.hid (below_ext HB.out hb7); have KX := Lib.hid hk; have tok3 : True := trivial; clear hk hb7 _t tok2)
    | (refine blkStore rfl (.tmp 14) (.tmp 41) rfl KX.out rfl rfl HY.out ?_; intro w8 hk hg; replace HB := Lib.hid (below_at HB.out hg (by omega) KX.out.lt); replace KA := Lib.hid (KA.out.grown hg (by omega)); replace KO := Lib.hid (KO.out.grown hg (by omega)); replace KX := Lib.hid hk; have hz8 := hg.size; clear hk hg)
    | (refine blkLoad rfl (.tmp 14) rfl KX.out rfl ?_)
    | (refine blkStore rfl (.tmp 13) (.tmp 46) rfl KO.out rfl rfl HY.out ?_; intro w9 hk hg; replace HB := Lib.hid (below_at HB.out hg (by omega) KO.out.lt); replace KA := Lib.hid (KA.out.grown hg (by omega)); replace KX := Lib.hid (KX.out.grown hg (by omega)); replace KO := Lib.hid hk; have hz9 := hg.size; clear hk hg)
    | (refine blkLoad rfl (.tmp 13) rfl KO.out rfl ?_)
    | (refine blkLoad rfl (.tmp 11) rfl KA.out rfl ?_)
    | (go_at_call 63; refine (PT.out _).mono ?_; rintro e w10 ⟨rfl, hb10⟩; replace KA := Lib.hid (KA.out.below hb10); replace KO := Lib.hid (KO.out.below hb10); replace HB := Lib.hid (below_ext HB.out hb10); have hz10 := hb10.size; clear hb10)
    | (have _t := tok3; refine blkAlloc rfl rfl ?_; intro w11 hk hb11 hz11; replace KA := Lib.hid (KA.out.below hb11); replace KO := Lib.hid (KO.out.below hb11); replace HB := Lib.hid (below_ext HB.out hb11); have KT := Lib.hid hk; have tok4 : True := trivial; clear hk hb11 _t tok3)
    | (refine blkStore rfl (.tmp 16) (.tmp 50) rfl KT.out rfl rfl HT.out ?_; intro w12 hk hg; replace HB := Lib.hid (below_at HB.out hg (by omega) KT.out.lt); replace KA := Lib.hid (KA.out.grown hg (by omega)); replace KO := Lib.hid (KO.out.grown hg (by omega)); replace KT := Lib.hid hk; have hz12 := hg.size; clear hk hg)
    | (refine blkLoad rfl (.tmp 16) rfl KT.out rfl ?_)
    | (go_at_call 59; refine (PG.out _).mono ?_; rintro e w13 ⟨⟨A4, c4, l4, rfl⟩, hb13⟩; replace KA := Lib.hid (KA.out.below hb13); replace KO := Lib.hid (KO.out.below hb13); replace KT := Lib.hid (KT.out.below hb13); replace HB := Lib.hid (below_ext HB.out hb13); have hz13 := hb13.size; clear hb13)
    | (refine blkEql rfl (.tmp 59) (.tmp 60) _ rfl rfl rfl HY.out HX.out false D1.out ?_)
    | (refine blkEql rfl (.tmp 68) (.tmp 69) _ rfl rfl rfl HY.out HY.out true (by simp) ?_)
    | (go_at_call 58; refine (lives_any _).mono ?_; rintro e w14 ⟨rfl, hb14⟩; replace HB := Lib.hid (below_ext HB.out hb14); clear hb14))
  go_ret
  exact ⟨ret_b (by simp), HB.out⟩
set_option maxRecDepth 100000 in
set_option maxHeartbeats 2000000 in
theorem torn_6 (n m : Nat) (hn : n < 18446744073709551616) (hm : m < 18446744073709551616) (B : Option Addr) (cap : Nat) (ys : List Int) (C : Option Addr) (cap2 : Nat) (zs : List Int) (q : Int) (hq : -9223372036854775808 ≤ q ∧ q ≤ 9223372036854775807) (w : World) (hr : ReadsInt w .u8 B ys.length ys) (hr2 : ReadsInt w .u8 C zs.length zs)
    (X : List Int) (HX : Hid (X.length = 64)) (hnm : ((n : Int) == (m : Int)) = false) (h0 : 0 < m) (P1 : Hid (PutB n ys X 0)) (Y : List Int) (HY : Hid (Y.length = 64)) (P2 : Hid (PutB m zs Y 0)) (T : List Int) (HT : Hid (T.length = 64)) (D1 : Hid (decide (T = X) = false)) (D2 : Hid (decide (T = Y) = false)) (g : Nat) (hg : g < 18446744073709551616) (PT : Hid (∀ w : World, Calls Try.prog 63 #[blk Y, blk X, .int .i64 q] w fun e w' => e = .returned (blk T) ∧ Below w.heap.size w w')) (PG : Hid (GetN T g 5)) :
    Calls Try.prog 13 #[.int .u64 (n : Int), .int .u64 (m : Int), .slice B ys.length cap, .slice C zs.length cap2, .int .i64 q] w fun e w' => e = .returned (.bool true) ∧ Below w.heap.size w w' := by
  have HB := Lib.hid (Below.refl w.heap.size w)
  have HR := Lib.hid hr
  have HZ := Lib.hid hr2
  have tok0 : True := trivial
  obtain ⟨q1, q2⟩ := hq
  clear hr hr2
  go_enter Try.func13, Try.ntmps13
  go_wp2_with (first
    | (go_skip)
    | (go_at_call_of 56 (Value.int .u64 (n : Int)); refine (P1.out _ _ _ (HR.out.below HB.out)).mono ?_; rintro e w1 ⟨rfl, hb1⟩; replace HB := Lib.hid (below_ext HB.out hb1); have hz1 := hb1.size; clear hb1)
    | (have _t := tok0; refine blkAlloc rfl rfl ?_; intro w2 hk hb2 hz2; replace HB := Lib.hid (below_ext HB.out hb2); have KA := Lib.hid hk; have tok1 : True := trivial; clear hk hb2 _t tok0)
    | (refine blkStore rfl (.tmp 11) (.tmp 24) rfl KA.out rfl rfl HX.out ?_; intro w3 hk hg; replace HB := Lib.hid (below_at HB.out hg (by omega) KA.out.lt); replace KA := Lib.hid hk; have hz3 := hg.size; clear hk hg)
    | (refine blkBuild rfl rfl ?_)
    | (have _t := tok1; refine blkAlloc rfl rfl ?_; intro w4 hk hb4 hz4; replace KA := Lib.hid (KA.out.below hb4); replace HB := Lib.hid (below_ext HB.out hb4); have KO := Lib.hid hk; have tok2 : True := trivial; clear hk hb4 _t tok1)
    | (refine blkStore rfl (.tmp 13) (.tmp 34) rfl KO.out rfl rfl zeros_length ?_; intro w5 hk hg; replace HB := Lib.hid (below_at HB.out hg (by omega) KO.out.lt); replace KA := Lib.hid (KA.out.grown hg (by omega)); replace KO := Lib.hid hk; have hz5 := hg.size; clear hk hg)
    | (go_at_call 56; refine (P2.out _ _ _ (HZ.out.below HB.out)).mono ?_; rintro e w6 ⟨rfl, hb6⟩; replace KA := Lib.hid (KA.out.below hb6); replace KO := Lib.hid (KO.out.below hb6); replace HB := Lib.hid (below_ext HB.out hb6); have hz6 := hb6.size; clear hb6)
    | (have _t := tok2; refine blkAlloc rfl rfl ?_; intro w7 hk hb7 hz7; replace KA := Lib.hid (KA.out.below hb7); replace KO := Lib.hid (KO.out.below hb7); replace HB := Lib.hid (below_ext HB.out hb7); have KX := Lib.hid hk; have tok3 : True := trivial; clear hk hb7 _t tok2)
    | (refine blkStore rfl (.tmp 14) (.tmp 41) rfl KX.out rfl rfl HY.out ?_; intro w8 hk hg; replace HB := Lib.hid (below_at HB.out hg (by omega) KX.out.lt); replace KA := Lib.hid (KA.out.grown hg (by omega)); replace KO := Lib.hid (KO.out.grown hg (by omega)); replace KX := Lib.hid hk; have hz8 := hg.size; clear hk hg)
    | (refine blkLoad rfl (.tmp 14) rfl KX.out rfl ?_)
    | (refine blkStore rfl (.tmp 13) (.tmp 46) rfl KO.out rfl rfl HY.out ?_; intro w9 hk hg; replace HB := Lib.hid (below_at HB.out hg (by omega) KO.out.lt); replace KA := Lib.hid (KA.out.grown hg (by omega)); replace KX := Lib.hid (KX.out.grown hg (by omega)); replace KO := Lib.hid hk; have hz9 := hg.size; clear hk hg)
    | (refine blkLoad rfl (.tmp 13) rfl KO.out rfl ?_)
    | (refine blkLoad rfl (.tmp 11) rfl KA.out rfl ?_)
    | (go_at_call 63; refine (PT.out _).mono ?_; rintro e w10 ⟨rfl, hb10⟩; replace KA := Lib.hid (KA.out.below hb10); replace KO := Lib.hid (KO.out.below hb10); replace HB := Lib.hid (below_ext HB.out hb10); have hz10 := hb10.size; clear hb10)
    | (have _t := tok3; refine blkAlloc rfl rfl ?_; intro w11 hk hb11 hz11; replace KA := Lib.hid (KA.out.below hb11); replace KO := Lib.hid (KO.out.below hb11); replace HB := Lib.hid (below_ext HB.out hb11); have KT := Lib.hid hk; have tok4 : True := trivial; clear hk hb11 _t tok3)
    | (refine blkStore rfl (.tmp 16) (.tmp 50) rfl KT.out rfl rfl HT.out ?_; intro w12 hk hg; replace HB := Lib.hid (below_at HB.out hg (by omega) KT.out.lt); replace KA := Lib.hid (KA.out.grown hg (by omega)); replace KO := Lib.hid (KO.out.grown hg (by omega)); replace KT := Lib.hid hk; have hz12 := hg.size; clear hk hg)
    | (refine blkLoad rfl (.tmp 16) rfl KT.out rfl ?_)
    | (go_at_call 59; refine (PG.out _).mono ?_; rintro e w13 ⟨⟨A4, c4, l4, rfl⟩, hb13⟩; replace KA := Lib.hid (KA.out.below hb13); replace KO := Lib.hid (KO.out.below hb13); replace KT := Lib.hid (KT.out.below hb13); replace HB := Lib.hid (below_ext HB.out hb13); have hz13 := hb13.size; clear hb13)
    | (refine blkNeq rfl (.tmp 80) (.tmp 81) _ rfl rfl rfl HT.out HX.out true D1.out ?_)
    | (refine blkNeq rfl (.tmp 84) (.tmp 85) _ rfl rfl rfl HT.out HY.out true D2.out ?_)
    | (go_at_call 58; refine (lives_any _).mono ?_; rintro e w14 ⟨rfl, hb14⟩; replace HB := Lib.hid (below_ext HB.out hb14); clear hb14))
  go_ret
  exact ⟨ret_b (by simp), HB.out⟩
set_option maxRecDepth 100000 in
set_option maxHeartbeats 2000000 in
theorem torn_7 (n : Nat) (hn : n < 18446744073709551616) (B : Option Addr) (cap : Nat) (ys : List Int) (C : Option Addr) (cap2 : Nat) (zs : List Int) (q : Int) (hq : -9223372036854775808 ≤ q ∧ q ≤ 9223372036854775807) (w : World) (hr : ReadsInt w .u8 B ys.length ys) (hr2 : ReadsInt w .u8 C zs.length zs)
    (X : List Int) (HX : Hid (X.length = 64)) (hnm : ((n : Int) == 0) = false) (P1 : Hid (PutB n ys X 0)) (HT : Hid (X.length = 64)) (PT : Hid (∀ w : World, Calls Try.prog 63 #[blk zeros, blk X, .int .i64 q] w fun e w' => e = .returned (blk X) ∧ Below w.heap.size w w')) (PG : Hid (GetN X n 0)) :
    Calls Try.prog 13 #[.int .u64 (n : Int), .int .u64 0, .slice B ys.length cap, .slice C zs.length cap2, .int .i64 q] w fun e w' => e = .returned (.bool true) ∧ Below w.heap.size w w' := by
  have HB := Lib.hid (Below.refl w.heap.size w)
  have HR := Lib.hid hr
  have HZ := Lib.hid hr2
  have tok0 : True := trivial
  obtain ⟨q1, q2⟩ := hq
  clear hr hr2
  go_enter Try.func13, Try.ntmps13
  go_wp2_with (first
    | (go_skip)
    | (go_at_call_of 56 (Value.int .u64 (n : Int)); refine (P1.out _ _ _ (HR.out.below HB.out)).mono ?_; rintro e w1 ⟨rfl, hb1⟩; replace HB := Lib.hid (below_ext HB.out hb1); have hz1 := hb1.size; clear hb1)
    | (have _t := tok0; refine blkAlloc rfl rfl ?_; intro w2 hk hb2 hz2; replace HB := Lib.hid (below_ext HB.out hb2); have KA := Lib.hid hk; have tok1 : True := trivial; clear hk hb2 _t tok0)
    | (refine blkStore rfl (.tmp 11) (.tmp 24) rfl KA.out rfl rfl HX.out ?_; intro w3 hk hg; replace HB := Lib.hid (below_at HB.out hg (by omega) KA.out.lt); replace KA := Lib.hid hk; have hz3 := hg.size; clear hk hg)
    | (refine blkBuild rfl rfl ?_)
    | (have _t := tok1; refine blkAlloc rfl rfl ?_; intro w4 hk hb4 hz4; replace KA := Lib.hid (KA.out.below hb4); replace HB := Lib.hid (below_ext HB.out hb4); have KO := Lib.hid hk; have tok2 : True := trivial; clear hk hb4 _t tok1)
    | (refine blkStore rfl (.tmp 13) (.tmp 34) rfl KO.out rfl rfl zeros_length ?_; intro w5 hk hg; replace HB := Lib.hid (below_at HB.out hg (by omega) KO.out.lt); replace KA := Lib.hid (KA.out.grown hg (by omega)); replace KO := Lib.hid hk; have hz5 := hg.size; clear hk hg)
    | (refine blkLoad rfl (.tmp 13) rfl KO.out rfl ?_)
    | (refine blkLoad rfl (.tmp 11) rfl KA.out rfl ?_)
    | (go_at_call 63; refine (PT.out _).mono ?_; rintro e w6 ⟨rfl, hb6⟩; replace KA := Lib.hid (KA.out.below hb6); replace KO := Lib.hid (KO.out.below hb6); replace HB := Lib.hid (below_ext HB.out hb6); have hz6 := hb6.size; clear hb6)
    | (have _t := tok2; refine blkAlloc rfl rfl ?_; intro w7 hk hb7 hz7; replace KA := Lib.hid (KA.out.below hb7); replace KO := Lib.hid (KO.out.below hb7); replace HB := Lib.hid (below_ext HB.out hb7); have KT := Lib.hid hk; have tok3 : True := trivial; clear hk hb7 _t tok2)
    | (refine blkStore rfl (.tmp 16) (.tmp 50) rfl KT.out rfl rfl HT.out ?_; intro w8 hk hg; replace HB := Lib.hid (below_at HB.out hg (by omega) KT.out.lt); replace KA := Lib.hid (KA.out.grown hg (by omega)); replace KO := Lib.hid (KO.out.grown hg (by omega)); replace KT := Lib.hid hk; have hz8 := hg.size; clear hk hg)
    | (refine blkLoad rfl (.tmp 16) rfl KT.out rfl ?_)
    | (go_at_call 59; refine (PG.out _).mono ?_; rintro e w9 ⟨⟨A4, c4, l4, rfl⟩, hb9⟩; replace KA := Lib.hid (KA.out.below hb9); replace KO := Lib.hid (KO.out.below hb9); replace KT := Lib.hid (KT.out.below hb9); replace HB := Lib.hid (below_ext HB.out hb9); have hz9 := hb9.size; clear hb9)
    | (refine blkEql rfl (.tmp 59) (.tmp 60) _ rfl rfl rfl HX.out HX.out true (by simp) ?_)
    | (go_at_call 58; refine (lives_any _).mono ?_; rintro e w10 ⟨rfl, hb10⟩; replace HB := Lib.hid (below_ext HB.out hb10); clear hb10))
  go_ret
  exact ⟨ret_b (by simp), HB.out⟩
set_option maxRecDepth 100000 in
set_option maxHeartbeats 2000000 in
theorem torn_8 (n : Nat) (hn : n < 18446744073709551616) (B : Option Addr) (cap : Nat) (ys : List Int) (C : Option Addr) (cap2 : Nat) (zs : List Int) (q : Int) (hq : -9223372036854775808 ≤ q ∧ q ≤ 9223372036854775807) (w : World) (hr : ReadsInt w .u8 B ys.length ys) (hr2 : ReadsInt w .u8 C zs.length zs)
    (X : List Int) (HX : Hid (X.length = 64)) (hnm : ((n : Int) == 0) = false) (P1 : Hid (PutB n ys X 0)) (HT : Hid (zeros.length = 64)) (D1 : Hid (decide (zeros = X) = false)) (PT : Hid (∀ w : World, Calls Try.prog 63 #[blk zeros, blk X, .int .i64 q] w fun e w' => e = .returned (blk zeros) ∧ Below w.heap.size w w')) (PG : Hid (GetN zeros 0 5)) :
    Calls Try.prog 13 #[.int .u64 (n : Int), .int .u64 0, .slice B ys.length cap, .slice C zs.length cap2, .int .i64 q] w fun e w' => e = .returned (.bool true) ∧ Below w.heap.size w w' := by
  have HB := Lib.hid (Below.refl w.heap.size w)
  have HR := Lib.hid hr
  have HZ := Lib.hid hr2
  have tok0 : True := trivial
  obtain ⟨q1, q2⟩ := hq
  clear hr hr2
  go_enter Try.func13, Try.ntmps13
  go_wp2_with (first
    | (go_skip)
    | (go_at_call_of 56 (Value.int .u64 (n : Int)); refine (P1.out _ _ _ (HR.out.below HB.out)).mono ?_; rintro e w1 ⟨rfl, hb1⟩; replace HB := Lib.hid (below_ext HB.out hb1); have hz1 := hb1.size; clear hb1)
    | (have _t := tok0; refine blkAlloc rfl rfl ?_; intro w2 hk hb2 hz2; replace HB := Lib.hid (below_ext HB.out hb2); have KA := Lib.hid hk; have tok1 : True := trivial; clear hk hb2 _t tok0)
    | (refine blkStore rfl (.tmp 11) (.tmp 24) rfl KA.out rfl rfl HX.out ?_; intro w3 hk hg; replace HB := Lib.hid (below_at HB.out hg (by omega) KA.out.lt); replace KA := Lib.hid hk; have hz3 := hg.size; clear hk hg)
    | (refine blkBuild rfl rfl ?_)
    | (have _t := tok1; refine blkAlloc rfl rfl ?_; intro w4 hk hb4 hz4; replace KA := Lib.hid (KA.out.below hb4); replace HB := Lib.hid (below_ext HB.out hb4); have KO := Lib.hid hk; have tok2 : True := trivial; clear hk hb4 _t tok1)
    | (refine blkStore rfl (.tmp 13) (.tmp 34) rfl KO.out rfl rfl zeros_length ?_; intro w5 hk hg; replace HB := Lib.hid (below_at HB.out hg (by omega) KO.out.lt); replace KA := Lib.hid (KA.out.grown hg (by omega)); replace KO := Lib.hid hk; have hz5 := hg.size; clear hk hg)
    | (refine blkLoad rfl (.tmp 13) rfl KO.out rfl ?_)
    | (refine blkLoad rfl (.tmp 11) rfl KA.out rfl ?_)
    | (go_at_call 63; refine (PT.out _).mono ?_; rintro e w6 ⟨rfl, hb6⟩; replace KA := Lib.hid (KA.out.below hb6); replace KO := Lib.hid (KO.out.below hb6); replace HB := Lib.hid (below_ext HB.out hb6); have hz6 := hb6.size; clear hb6)
    | (have _t := tok2; refine blkAlloc rfl rfl ?_; intro w7 hk hb7 hz7; replace KA := Lib.hid (KA.out.below hb7); replace KO := Lib.hid (KO.out.below hb7); replace HB := Lib.hid (below_ext HB.out hb7); have KT := Lib.hid hk; have tok3 : True := trivial; clear hk hb7 _t tok2)
    | (refine blkStore rfl (.tmp 16) (.tmp 50) rfl KT.out rfl rfl HT.out ?_; intro w8 hk hg; replace HB := Lib.hid (below_at HB.out hg (by omega) KT.out.lt); replace KA := Lib.hid (KA.out.grown hg (by omega)); replace KO := Lib.hid (KO.out.grown hg (by omega)); replace KT := Lib.hid hk; have hz8 := hg.size; clear hk hg)
    | (refine blkLoad rfl (.tmp 16) rfl KT.out rfl ?_)
    | (go_at_call 59; refine (PG.out _).mono ?_; rintro e w9 ⟨⟨A4, c4, l4, rfl⟩, hb9⟩; replace KA := Lib.hid (KA.out.below hb9); replace KO := Lib.hid (KO.out.below hb9); replace KT := Lib.hid (KT.out.below hb9); replace HB := Lib.hid (below_ext HB.out hb9); have hz9 := hb9.size; clear hb9)
    | (refine blkNeq rfl (.tmp 80) (.tmp 81) _ rfl rfl rfl zeros_length HX.out true D1.out ?_)
    | (refine blkNeq rfl (.tmp 84) (.tmp 85) _ rfl rfl rfl zeros_length zeros_length false (by simp) ?_)
    | (go_at_call 58; refine (lives_any _).mono ?_; rintro e w10 ⟨rfl, hb10⟩; replace HB := Lib.hid (below_ext HB.out hb10); clear hb10))
  go_ret
  exact ⟨ret_b (by simp), HB.out⟩
set_option maxRecDepth 100000 in
set_option maxHeartbeats 2000000 in
theorem torn_9 (n : Nat) (hn : n < 18446744073709551616) (B : Option Addr) (cap : Nat) (ys : List Int) (C : Option Addr) (cap2 : Nat) (zs : List Int) (q : Int) (hq : -9223372036854775808 ≤ q ∧ q ≤ 9223372036854775807) (w : World) (hr : ReadsInt w .u8 B ys.length ys) (hr2 : ReadsInt w .u8 C zs.length zs)
    (X : List Int) (HX : Hid (X.length = 64)) (hnm : ((n : Int) == 0) = false) (P1 : Hid (PutB n ys X 0)) (T : List Int) (HT : Hid (T.length = 64)) (D1 : Hid (decide (T = X) = false)) (D2 : Hid (decide (T = zeros) = false)) (g : Nat) (hg : g < 18446744073709551616) (PT : Hid (∀ w : World, Calls Try.prog 63 #[blk zeros, blk X, .int .i64 q] w fun e w' => e = .returned (blk T) ∧ Below w.heap.size w w')) (PG : Hid (GetN T g 5)) :
    Calls Try.prog 13 #[.int .u64 (n : Int), .int .u64 0, .slice B ys.length cap, .slice C zs.length cap2, .int .i64 q] w fun e w' => e = .returned (.bool true) ∧ Below w.heap.size w w' := by
  have HB := Lib.hid (Below.refl w.heap.size w)
  have HR := Lib.hid hr
  have HZ := Lib.hid hr2
  have tok0 : True := trivial
  obtain ⟨q1, q2⟩ := hq
  clear hr hr2
  go_enter Try.func13, Try.ntmps13
  go_wp2_with (first
    | (go_skip)
    | (go_at_call_of 56 (Value.int .u64 (n : Int)); refine (P1.out _ _ _ (HR.out.below HB.out)).mono ?_; rintro e w1 ⟨rfl, hb1⟩; replace HB := Lib.hid (below_ext HB.out hb1); have hz1 := hb1.size; clear hb1)
    | (have _t := tok0; refine blkAlloc rfl rfl ?_; intro w2 hk hb2 hz2; replace HB := Lib.hid (below_ext HB.out hb2); have KA := Lib.hid hk; have tok1 : True := trivial; clear hk hb2 _t tok0)
    | (refine blkStore rfl (.tmp 11) (.tmp 24) rfl KA.out rfl rfl HX.out ?_; intro w3 hk hg; replace HB := Lib.hid (below_at HB.out hg (by omega) KA.out.lt); replace KA := Lib.hid hk; have hz3 := hg.size; clear hk hg)
    | (refine blkBuild rfl rfl ?_)
    | (have _t := tok1; refine blkAlloc rfl rfl ?_; intro w4 hk hb4 hz4; replace KA := Lib.hid (KA.out.below hb4); replace HB := Lib.hid (below_ext HB.out hb4); have KO := Lib.hid hk; have tok2 : True := trivial; clear hk hb4 _t tok1)
    | (refine blkStore rfl (.tmp 13) (.tmp 34) rfl KO.out rfl rfl zeros_length ?_; intro w5 hk hg; replace HB := Lib.hid (below_at HB.out hg (by omega) KO.out.lt); replace KA := Lib.hid (KA.out.grown hg (by omega)); replace KO := Lib.hid hk; have hz5 := hg.size; clear hk hg)
    | (refine blkLoad rfl (.tmp 13) rfl KO.out rfl ?_)
    | (refine blkLoad rfl (.tmp 11) rfl KA.out rfl ?_)
    | (go_at_call 63; refine (PT.out _).mono ?_; rintro e w6 ⟨rfl, hb6⟩; replace KA := Lib.hid (KA.out.below hb6); replace KO := Lib.hid (KO.out.below hb6); replace HB := Lib.hid (below_ext HB.out hb6); have hz6 := hb6.size; clear hb6)
    | (have _t := tok2; refine blkAlloc rfl rfl ?_; intro w7 hk hb7 hz7; replace KA := Lib.hid (KA.out.below hb7); replace KO := Lib.hid (KO.out.below hb7); replace HB := Lib.hid (below_ext HB.out hb7); have KT := Lib.hid hk; have tok3 : True := trivial; clear hk hb7 _t tok2)
    | (refine blkStore rfl (.tmp 16) (.tmp 50) rfl KT.out rfl rfl HT.out ?_; intro w8 hk hg; replace HB := Lib.hid (below_at HB.out hg (by omega) KT.out.lt); replace KA := Lib.hid (KA.out.grown hg (by omega)); replace KO := Lib.hid (KO.out.grown hg (by omega)); replace KT := Lib.hid hk; have hz8 := hg.size; clear hk hg)
    | (refine blkLoad rfl (.tmp 16) rfl KT.out rfl ?_)
    | (go_at_call 59; refine (PG.out _).mono ?_; rintro e w9 ⟨⟨A4, c4, l4, rfl⟩, hb9⟩; replace KA := Lib.hid (KA.out.below hb9); replace KO := Lib.hid (KO.out.below hb9); replace KT := Lib.hid (KT.out.below hb9); replace HB := Lib.hid (below_ext HB.out hb9); have hz9 := hb9.size; clear hb9)
    | (refine blkNeq rfl (.tmp 80) (.tmp 81) _ rfl rfl rfl HT.out HX.out true D1.out ?_)
    | (refine blkNeq rfl (.tmp 84) (.tmp 85) _ rfl rfl rfl HT.out zeros_length true D2.out ?_)
    | (go_at_call 58; refine (lives_any _).mono ?_; rintro e w10 ⟨rfl, hb10⟩; replace HB := Lib.hid (below_ext HB.out hb10); clear hb10))
  go_ret
  exact ⟨ret_b (by simp), HB.out⟩
theorem torn_call (O X : List Int) (hO : O.length = 64) (hX : X.length = 64) (q : Int) (hq : -9223372036854775808 ≤ q ∧ q ≤ 9223372036854775807) {T : List Int} (h : torn O X q = T) : ∀ w : World, Calls Try.prog 63 #[blk O, blk X, .int .i64 q] w fun e w' => e = .returned (blk T) ∧ Below w.heap.size w w' := fun w => by
  rw [← h]; exact Torn_any O X hO hX q hq w
theorem get_sealed {n : Nat} {ys : List Int} (h0 : n ≠ 0) (hn : n < 18446744073709551616) (hl : ys.length ≤ 44) (hw : Wf8 ys) : GetN (sealed n ys) n 0 := by
  have h := get_n (sealed_length hl) (sealed_wf n hw)
  rwa [gots_sealed h0 hn hl] at h
theorem torn_any (n m : Nat) (hn : n < 18446744073709551616) (hm : m < 18446744073709551616) (B : Option Addr) (cap : Nat) (ys : List Int) (hw : Wf8 ys) (C : Option Addr) (cap2 : Nat) (zs : List Int) (hw2 : Wf8 zs) (q : Int) (hq : -9223372036854775808 ≤ q ∧ q ≤ 9223372036854775807) (w : World) (hr : ReadsInt w .u8 B ys.length ys) (hr2 : ReadsInt w .u8 C zs.length zs) :
    Calls Try.prog 13 #[.int .u64 (n : Int), .int .u64 (m : Int), .slice B ys.length cap, .slice C zs.length cap2, .int .i64 q] w fun e w' => e = .returned (.bool true) ∧ Below w.heap.size w w' := by
  obtain ⟨⟨X, e⟩, hX⟩ : ∃ S, S = seals n ys := ⟨_, rfl⟩
  have hXl : X.length = 64 := by have h := seals_length n ys; rwa [← hX] at h
  have P1 := Lib.hid (put_b hn hw hX.symm)
  by_cases he : e = 0
  · subst he
    rcases seals_err hX.symm with ⟨_, h0, hla, hX2⟩ | ⟨h, _⟩ | ⟨h, _⟩
    · have hXw : Wf8 X := by rw [hX2]; exact sealed_wf n hw
      have gX : GetN X n 0 := by rw [hX2]; exact get_sealed h0 hn hla hw
      have gotX : gots X = (n, ys ++ Z (44 - ys.length), 0) := by rw [hX2]; exact gots_sealed h0 hn hla
      by_cases hnm : n = m
      · exact torn_2 n m hn hm B cap ys C cap2 zs q hq w hr hr2 X (Lib.hid hXl) (by simp [hnm]) P1
      · have hnm' : ((n : Int) == (m : Int)) = false := by simp; omega
        by_cases hm0 : m = 0
        · subst hm0
          have key := torn_is (q := q) zeros_length hXl (zeros_wf 64) hXw first_zeros last_zeros (by rw [hX2]; exact first_sealed hn) (by rw [hX2]; exact last_sealed hn hla) hnm
          have hne : zeros ≠ X := fun h => by rw [← h, gots_zeros] at gotX; exact absurd (congrArg (fun z => z.2.2) gotX) (by simp)
          have hnz : ((n : Int) == 0) = false := by simp; omega
          have hTl := torn_length (n := q) zeros_length hXl
          have hTw := torn_wf (n := q) (zeros_wf 64) hXw
          by_cases h1 : torn zeros X q = zeros
          · exact torn_8 n hn B cap ys C cap2 zs q hq w hr hr2 X (Lib.hid hXl) hnz P1 (Lib.hid zeros_length) (Lib.hid (decide_eq_false hne)) (Lib.hid (torn_call zeros X zeros_length hXl q hq h1)) (Lib.hid (by have h := get_n zeros_length (zeros_wf 64); rwa [gots_zeros] at h))
          · by_cases h2 : torn zeros X q = X
            · exact torn_7 n hn B cap ys C cap2 zs q hq w hr hr2 X (Lib.hid hXl) hnz P1 (Lib.hid hXl) (Lib.hid (torn_call zeros X zeros_length hXl q hq h2)) (Lib.hid gX)
            · have h3 : (gots (torn zeros X q)).2.2 = 5 := by rcases key with h | h | h; exact absurd h h1; exact absurd h h2; exact h
              exact torn_9 n hn B cap ys C cap2 zs q hq w hr hr2 X (Lib.hid hXl) hnz P1 _ (Lib.hid hTl) (Lib.hid (decide_eq_false h2)) (Lib.hid (decide_eq_false h1)) _ (gots_lt hTw) (Lib.hid (torn_call zeros X zeros_length hXl q hq rfl)) (Lib.hid (by have h := get_n hTl hTw; rwa [h3] at h))
        · obtain ⟨⟨Y, f⟩, hY⟩ : ∃ S, S = seals m zs := ⟨_, rfl⟩
          have hYl : Y.length = 64 := by have h := seals_length m zs; rwa [← hY] at h
          have P2 := Lib.hid (put_b hm hw2 hY.symm)
          by_cases hf : f = 0
          · subst hf
            rcases seals_err hY.symm with ⟨_, k0, hlb, hY2⟩ | ⟨h, _⟩ | ⟨h, _⟩
            · have hYw : Wf8 Y := by rw [hY2]; exact sealed_wf m hw2
              have gotY : gots Y = (m, zs ++ Z (44 - zs.length), 0) := by rw [hY2]; exact gots_sealed k0 hm hlb
              have key := torn_is (q := q) hYl hXl hYw hXw (by rw [hY2]; exact first_sealed hm) (by rw [hY2]; exact last_sealed hm hlb) (by rw [hX2]; exact first_sealed hn) (by rw [hX2]; exact last_sealed hn hla) hnm
              have hne : Y ≠ X := fun h => hnm (by rw [h, gotX] at gotY; injection gotY)
              have hTl := torn_length (n := q) hYl hXl
              have hTw := torn_wf (n := q) hYw hXw
              by_cases h1 : torn Y X q = Y
              · exact torn_5 n m hn hm B cap ys C cap2 zs q hq w hr hr2 X (Lib.hid hXl) hnm' (by omega) P1 Y (Lib.hid hYl) P2 (Lib.hid hYl) (Lib.hid (decide_eq_false hne)) (Lib.hid (torn_call Y X hYl hXl q hq h1)) (Lib.hid (by rw [hY2]; exact get_sealed k0 hm hlb hw2))
              · by_cases h2 : torn Y X q = X
                · exact torn_4 n m hn hm B cap ys C cap2 zs q hq w hr hr2 X (Lib.hid hXl) hnm' (by omega) P1 Y (Lib.hid hYl) P2 (Lib.hid hXl) (Lib.hid (torn_call Y X hYl hXl q hq h2)) (Lib.hid gX)
                · have h3 : (gots (torn Y X q)).2.2 = 5 := by rcases key with h | h | h; exact absurd h h1; exact absurd h h2; exact h
                  exact torn_6 n m hn hm B cap ys C cap2 zs q hq w hr hr2 X (Lib.hid hXl) hnm' (by omega) P1 Y (Lib.hid hYl) P2 _ (Lib.hid hTl) (Lib.hid (decide_eq_false h2)) (Lib.hid (decide_eq_false h1)) _ (gots_lt hTw) (Lib.hid (torn_call Y X hYl hXl q hq rfl)) (Lib.hid (by have h := get_n hTl hTw; rwa [h3] at h))
            · cases h
            · cases h
          · exact torn_3 n m hn hm B cap ys C cap2 zs q hq w hr hr2 X (Lib.hid hXl) hnm' (by omega) f (by simpa using hf) P1 Y (Lib.hid hYl) P2
    · cases h
    · cases h
  · exact torn_1 n m hn hm B cap ys C cap2 zs q hq w hr hr2 X (Lib.hid hXl) e (by simpa using he) P1
theorem torn_any' (n : Int) (wn : (Lit.int .u64 n).wf = true) (m : Int) (wm : (Lit.int .u64 m).wf = true) (A : Option Addr) (ca : Nat) (a : List Int) {w : World} (hra : ReadsInt w .u8 A a.length a) (y : a.length * 1 ≤ 140737488351232) (ha : ∀ x ∈ a, (Lit.int .u8 x).wf = true) (hc : a.length ≤ ca)
    (B : Option Addr) (cb : Nat) (b : List Int) (hrb : ReadsInt w .u8 B b.length b) (y2 : b.length * 1 ≤ 140737488351232) (hb : ∀ x ∈ b, (Lit.int .u8 x).wf = true) (hc2 : b.length ≤ cb) (q : Int) (wq : (Lit.int .i64 q).wf = true) :
    Calls Try.prog 13 #[.int .u64 n, .int .u64 m, .slice A a.length ca, .slice B b.length cb, .int .i64 q] w fun e w' => e = .returned (.bool true) ∧ Below w.heap.size w w' := by
  obtain ⟨n, rfl, hn⟩ := u64_nat wn
  obtain ⟨m, rfl, hm⟩ := u64_nat wm
  exact torn_any n m hn hm A ca a ha B cb b hb q (bounds_i64 wq) w hra hrb
theorem byte_any' (n : Int) (wn : (Lit.int .u64 n).wf = true) (B : Option Addr) (cap : Nat) (l : List Int) {w : World} (hr : ReadsInt w .u8 B l.length l) (y : l.length * 1 ≤ 140737488351232) (hw : ∀ x ∈ l, (Lit.int .u8 x).wf = true) (hc : l.length ≤ cap) (a : Int) (wa : (Lit.int .u8 a).wf = true) (c : Int) (wc : (Lit.int .u8 c).wf = true) :
    Calls Try.prog 14 #[.int .u64 n, .slice B l.length cap, .int .u8 a, .int .u8 c] w fun e w' => e = .returned (.bool true) ∧ Below w.heap.size w w' := by
  obtain ⟨n, rfl, hn⟩ := u64_nat wn
  exact byte_any n hn B cap l hw a (by obtain ⟨h1, h2⟩ := bounds_u8 wa; omega) c (by obtain ⟨h1, h2⟩ := bounds_u8 wc; omega) w hr
end Go.Proofs.Ytdchcggllcgokaa.E
