/-
  super.Get whole. ashlarref08.Get whole.
-/
import Derived.Test.YtdchcggllcgokaaSqP
import Derived.Test.YtdchcggllcgokaaSqG2
import Derived.Test.YtdchcggllcgokaaSqG3
import Derived.Test.YtdchcggllcgokaaSqG4
import Derived.Test.YtdchcggllcgokaaSqG5
import Derived.Test.YtdchcggllcgokaaSqG6
import Derived.Test.YtdchcggllcgokaaSqR2
import Derived.Test.YtdchcggllcgokaaSqR3
import Derived.Test.YtdchcggllcgokaaSqR4
import Derived.Test.YtdchcggllcgokaaSqR5
import Derived.Deep.RegionHeld3
import Derived.Deep.MidRow
namespace Go.Proofs.Ytdchcggllcgokaa.Q
open Go.RowKit Go.Proofs.Ytdchcggllcgokaa.L Go.Proofs.Ytdchcggllcgokaa.U Go.Proofs.Ytdchcggllcgokaa.E Go.Proofs.Ytdchcggllcgokaa.R Go.Proofs.YtdchcggllcgokaaW.PrintWords
set_option linter.unusedVariables false
set_option linter.unusedSimpArgs false
def GotE (f : Nat) (xs : List Int) (w : World) (r : SQ) : Prop := Calls Try.prog f #[blk xs] w fun e w' => e = .returned (.tuple #[.int .u64 (r.1.1 : Int), sup r.1.2, .int .i64 r.2]) ∧ Below w.heap.size w w'
theorem got_44 {xs D : List Int} {n : Nat} (hl : xs.length = 64) (hw : Wf8 xs) (hg : gots xs = (n, D, 0)) (hDl : D.length = 44) (w : World) :
    Calls Try.prog 59 #[blk xs] w fun e w' => (∃ A k, e = .returned (.tuple #[.int .u64 (n : Int), .slice A 44 k, .int .i64 0]) ∧ Byts w.heap.size w' A k D) ∧ Below w.heap.size w w' := by
  refine (Get_seal xs hl hw w).mono ?_
  rintro e w' ⟨⟨A, k, he, ho, _⟩, hb⟩
  rw [hg] at he ho
  rw [← hDl]
  exact ⟨⟨A, k, he, ho⟩, hb⟩
theorem rgot_44 {xs D : List Int} {n : Nat} (hl : xs.length = 64) (hw : Wf8 xs) (hg : gots xs = (n, D, 0)) (hDl : D.length = 44) (w : World) :
    Calls Try.prog 60 #[blk xs] w fun e w' => (∃ A k, e = .returned (.tuple #[.int .u64 (n : Int), .slice A 44 k, .int .i64 0]) ∧ Byts w.heap.size w' A k D) ∧ Below w.heap.size w w' := by
  refine (rGet_seal xs hl hw w).mono ?_
  rintro e w' ⟨⟨A, k, he, ho⟩, hb⟩
  rw [hg] at he ho
  rw [← hDl]
  exact ⟨⟨A, k, he, ho⟩, hb⟩
theorem unb_30 {D : List Int} (hw : Wf8 D) (hl : D.length = 44) (A : Option Addr) (c : Nat) (w : World) (hr : ReadsInt w .u8 A 30 (D.drop 14)) :
    Calls Try.prog 36 #[.slice A 30 c, .int .i64 2, .int .i64 16] w fun e w' => (∃ A' c', e = .returned (.tuple #[.slice A' 16 c', .int .i64 0]) ∧ Byts w.heap.size w' A' c' (gSt D)) ∧ Below w.heap.size w w' := by
  have h30 : (D.drop 14).length = 30 := by rw [List.length_drop, hl]
  have h := unb_n (L := D.drop 14) (X := gSt D) (k := 2) (m := 16) (er := 0) (wf_drop hw 14) (by rw [h30]; decide) (by decide) (by decide) (unbs_ok (s := 2) (m := 16) (by decide) (by decide) (by decide) (by rw [h30]; decide)) A c w (by rw [h30]; exact hr)
  rw [h30, gSt_length] at h
  exact h
theorem Get_err (xs : List Int) (hl : xs.length = 64) (n : Nat) (k : Int) (hk : (k != 0) = true) (PG : GetN xs n k) (w : World) : GotE 103 xs w ((0, su0), k) :=
  sGet_1 xs (Lib.hid hl) n k hk (Lib.hid PG) w
theorem Get_S (xs : List Int) (hl : xs.length = 64) (hw : Wf8 xs) (w : World) : GotE 103 xs w (gotS xs) := by
  by_cases h0 : (gots xs).2.2 = 0
  · have hn := gots_lt hw
    obtain ⟨⟨n, D, k⟩, hg⟩ : ∃ q, gots xs = q := ⟨_, rfl⟩
    rw [hg] at h0 hn
    obtain rfl : k = 0 := h0
    have hDi := (reseal hl hw hg).2.1
    have hDl : D.length = 44 := by rw [hDi]; exact inner_length hl
    have hDw : Wf8 D := by rw [hDi]; exact inner_wf hw
    have PG := got_44 hl hw hg hDl
    rw [gotS_ok hg]
    have P0 := getD hDw hDl 0 8 (by decide) (by decide) (by decide) (gB D 0 8) rfl
    have P1 := getD hDw hDl 8 1 (by decide) (by decide) (by decide) (gB D 8 1) rfl
    have P2 := getD hDw hDl 9 2 (by decide) (by decide) (by decide) (gB D 9 2) rfl
    have P3 := getD hDw hDl 11 2 (by decide) (by decide) (by decide) (gB D 11 2) rfl
    have P4 := getD hDw hDl 13 1 (by decide) (by decide) (by decide) (gB D 13 1) rfl
    have P5 := getD hDw hDl 18 2 (by decide) (by decide) (by decide) (gB D 18 2) rfl
    have P6 := getD hDw hDl 20 1 (by decide) (by decide) (by decide) (gB D 20 1) rfl
    have l0 : gB D 0 8 < 18446744073709551616 := gB_lt hDw 0 8
    have l1 : gB D 8 1 < 256 := gB_lt hDw 8 1
    have l2 : gB D 9 2 < 65536 := gB_lt hDw 9 2
    have l3 : gB D 11 2 < 65536 := gB_lt hDw 11 2
    have l4 : gB D 13 1 < 256 := gB_lt hDw 13 1
    have l5 : gB D 18 2 < 65536 := gB_lt hDw 18 2
    have l6 : gB D 20 1 < 256 := gB_lt hDw 20 1
    have PU := fun A c w hr => unb_30 hDw hDl A c w hr
    have PF := fun A c w hr => Cont_any A c 23 (D.drop 21) (by decide) w hr
    have pe := fun w => event_any n _ rfl w
    have pm := fun w => sMay_any (gSu D) (gSu_wf D) w
    have hls := gSt_length D
    have hok : okS n (gSu D) = (decide (1 ≤ n ∧ n ≤ 4611686018427387904) && mayS (gSu D)) := rfl
    clear hDi hDw hg
    unfold gSu at *
    generalize gB D 0 8 = i at *
    generalize gB D 8 1 = m at *
    generalize gB D 9 2 = s at *
    generalize gB D 11 2 = r at *
    generalize gB D 13 1 = se at *
    generalize gB D 18 2 = cu at *
    generalize gB D 20 1 = gn at *
    generalize gSt D = l at *
    generalize hqn : (gn == 1) = q at *
    have hq : ((gn : Int) == 1) = q := by rw [← hqn, Bool.eq_iff_iff]; simp; omega
    rw [hok]
    clear hok
    generalize mayS ⟨i, (se : Int), ⟨(m : Int), (s : Int), (r : Int), l, (cu : Int), q⟩⟩ = z at pm ⊢
    by_cases hb : 1 ≤ n ∧ n ≤ 4611686018427387904
    · rw [decide_eq_true hb] at pe ⊢
      cases z with
      | false =>
        rw [if_neg (fun h => by simp at h)]
        exact sGet_3 xs (Lib.hid hl) D l (Lib.hid hDl) (Lib.hid hls) n i m s r se cu gn hn l0 l1 l2 l3 l4 l5 l6 q _ hq hqn (Lib.hid PG) (Lib.hid P0) (Lib.hid P1) (Lib.hid P2) (Lib.hid P3) (Lib.hid P4) (Lib.hid P5) (Lib.hid P6) (Lib.hid PU) (Lib.hid PF) (Lib.hid pe) (Lib.hid pm) w
      | true =>
        by_cases h1 : 1 < gn
        · rw [if_neg (fun h => by have := h.2.1; omega)]
          exact sGet_4 xs (Lib.hid hl) D l (Lib.hid hDl) (Lib.hid hls) n i m s r se cu gn hn l0 l1 l2 l3 l4 l5 l6 q _ hq hqn h1 (Lib.hid PG) (Lib.hid P0) (Lib.hid P1) (Lib.hid P2) (Lib.hid P3) (Lib.hid P4) (Lib.hid P5) (Lib.hid P6) (Lib.hid PU) (Lib.hid PF) (Lib.hid pe) (Lib.hid pm) w
        · by_cases h2 : D.drop 21 = Z 23
          · rw [if_pos ⟨rfl, by omega, h2⟩]
            exact sGet_6 xs (Lib.hid hl) D l (Lib.hid hDl) (Lib.hid hls) n i m s r se cu gn hn l0 l1 l2 l3 l4 l5 l6 q _ hq hqn (by omega) (by simp [h2]) (Lib.hid PG) (Lib.hid P0) (Lib.hid P1) (Lib.hid P2) (Lib.hid P3) (Lib.hid P4) (Lib.hid P5) (Lib.hid P6) (Lib.hid PU) (Lib.hid PF) (Lib.hid pe) (Lib.hid pm) w
          · rw [if_neg (fun h => h2 h.2.2)]
            exact sGet_5 xs (Lib.hid hl) D l (Lib.hid hDl) (Lib.hid hls) n i m s r se cu gn hn l0 l1 l2 l3 l4 l5 l6 q _ hq hqn (by omega) (by simp [h2]) (Lib.hid PG) (Lib.hid P0) (Lib.hid P1) (Lib.hid P2) (Lib.hid P3) (Lib.hid P4) (Lib.hid P5) (Lib.hid P6) (Lib.hid PU) (Lib.hid PF) (Lib.hid pe) (Lib.hid pm) w
    · rw [decide_eq_false hb] at pe ⊢
      rw [if_neg (fun h => by simp at h)]
      exact sGet_2 xs (Lib.hid hl) D l (Lib.hid hDl) (Lib.hid hls) n i m s r se cu gn hn l0 l1 l2 l3 l4 l5 l6 q _ hq hqn (Lib.hid PG) (Lib.hid P0) (Lib.hid P1) (Lib.hid P2) (Lib.hid P3) (Lib.hid P4) (Lib.hid P5) (Lib.hid P6) (Lib.hid PU) (Lib.hid PF) (Lib.hid pe) w
  · rw [gotS_err h0]
    have hk := bne_iff_ne.2 h0
    have PG := get_n hl hw
    generalize (gots xs).2.2 = k at *
    generalize (gots xs).1 = n at *
    exact Get_err xs hl n k hk PG w
end Go.Proofs.Ytdchcggllcgokaa.Q

namespace Go.Proofs.Ytdchcggllcgokaa.Q
open Go.RowKit Go.Proofs.Ytdchcggllcgokaa.L Go.Proofs.Ytdchcggllcgokaa.U Go.Proofs.Ytdchcggllcgokaa.E Go.Proofs.Ytdchcggllcgokaa.R Go.Proofs.YtdchcggllcgokaaW.PrintWords
set_option linter.unusedVariables false
set_option linter.unusedSimpArgs false
theorem item_take (X : List Int) (i : Nat) (hi : i < 16) (hl : 4 ≤ X.length) : item (val (X.take 4)) 2 i = item (val X) 2 i := by
  rw [item, item]
  apply V.pack_congr
  intro k hk
  have h1 : (i * 2 + k) / 8 < 4 := by omega
  rw [V.bitv, V.bitv]
  congr 1
  have h2 := val_append (xs := X.take 4) (ys := X.drop 4) (i := (i * 2 + k) / 8) (by rw [List.length_take]; omega)
  rw [List.take_append_drop] at h2
  exact h2.symm
theorem gSt_take {D : List Int} (hl : D.length = 44) : items (val ((D.drop 14).take 4)) 2 16 = gSt D := by
  rw [gSt, items, items]
  apply List.map_congr_left
  intro i hi
  rw [item_take _ i (List.mem_range.1 hi) (by rw [List.length_drop]; omega)]
theorem runb_4 {D : List Int} (hw : Wf8 D) (hl : D.length = 44) (A : Option Addr) (c : Nat) (w : World) (hr : ReadsInt w .u8 A 4 ((D.drop 14).take 4)) :
    Calls Try.prog 37 #[.slice A 4 c, .int .i64 2, .int .i64 16] w fun e w' => (∃ A' c', e = .returned (.tuple #[.slice A' 16 c', .int .i64 0]) ∧ Byts w.heap.size w' A' c' (gSt D)) ∧ Below w.heap.size w w' := by
  have h4 : ((D.drop 14).take 4).length = 4 := by rw [List.length_take, List.length_drop, hl]; decide
  have h := rUnbits_all A c ((D.drop 14).take 4) (wf_take (wf_drop hw 14) 4) 2 16 (by decide) (by decide) (by omega) w (by rw [h4]; exact hr)
  have hu : unbs ((D.drop 14).take 4) 2 16 = (gSt D, 0) := by
    have h5 := unbs_ok (xs := (D.drop 14).take 4) (s := 2) (m := 16) (by decide) (by decide) (by decide) (by omega)
    rw [gSt_take hl] at h5
    exact h5
  simp only [UnbP, hu, h4, gSt_length] at h
  exact h
theorem byte_g {D : List Int} (hw : Wf8 D) : rd D (20 : Nat) = (gB D 20 1 : Int) := by
  have h := rd_byte hw 20
  have h2 : gB D 20 1 = (rd D (20 : Nat)).toNat := by simp [gB, vle, bat]
  rw [h2]
  omega
theorem rGet_err (xs : List Int) (hl : xs.length = 64) (n : Nat) (k : Int) (hk : (k != 0) = true) (PG : rGetN xs n k) (w : World) : GotE 104 xs w ((0, su0), k) :=
  rGet_1 xs (Lib.hid hl) n k hk (Lib.hid PG) w
theorem rGet_S (xs : List Int) (hl : xs.length = 64) (hw : Wf8 xs) (w : World) : GotE 104 xs w (gotS xs) := by
  by_cases h0 : (gots xs).2.2 = 0
  · have hn := gots_lt hw
    obtain ⟨⟨n, D, k⟩, hg⟩ : ∃ q, gots xs = q := ⟨_, rfl⟩
    rw [hg] at h0 hn
    obtain rfl : k = 0 := h0
    have hDi := (reseal hl hw hg).2.1
    have hDl : D.length = 44 := by rw [hDi]; exact inner_length hl
    have hDw : Wf8 D := by rw [hDi]; exact inner_wf hw
    have PG := rgot_44 hl hw hg hDl
    have hsame := same_super hl hw hg
    rw [gotS_ok hg]
    have P0 := rgetD hDw hDl 0 8 (by decide) (by decide) (by decide) (gB D 0 8) rfl
    have P1 := rgetD hDw hDl 8 1 (by decide) (by decide) (by decide) (gB D 8 1) rfl
    have P2 := rgetD hDw hDl 9 2 (by decide) (by decide) (by decide) (gB D 9 2) rfl
    have P3 := rgetD hDw hDl 11 2 (by decide) (by decide) (by decide) (gB D 11 2) rfl
    have P4 := rgetD hDw hDl 13 1 (by decide) (by decide) (by decide) (gB D 13 1) rfl
    have P5 := rgetD hDw hDl 18 2 (by decide) (by decide) (by decide) (gB D 18 2) rfl
    have P6 := rgetD hDw hDl 20 1 (by decide) (by decide) (by decide) (gB D 20 1) rfl
    have l0 : gB D 0 8 < 18446744073709551616 := gB_lt hDw 0 8
    have l1 : gB D 8 1 < 256 := gB_lt hDw 8 1
    have l2 : gB D 9 2 < 65536 := gB_lt hDw 9 2
    have l3 : gB D 11 2 < 65536 := gB_lt hDw 11 2
    have l4 : gB D 13 1 < 256 := gB_lt hDw 13 1
    have l5 : gB D 18 2 < 65536 := gB_lt hDw 18 2
    have l6 : gB D 20 1 < 256 := gB_lt hDw 20 1
    have hg20 := byte_g hDw
    have PU := fun A c w hr => runb_4 hDw hDl A c w hr
    have pe := fun w => revent_any n _ rfl w
    have pm := fun w => rsMay_any (gSu D) (gSu_wf D) w
    have hls := gSt_length D
    have hok : okS n (gSu D) = (decide (1 ≤ n ∧ n ≤ 4611686018427387904) && mayS (gSu D)) := rfl
    have hwf := gSu_wf D
    have hid : (gSu D).id < 18446744073709551616 := l0
    have pb := fun (h : mayS (gSu D) = true) w => rbody_S (gSu D) hwf h hid w
    have pp := fun (h1 : n ≠ 0) => rput_b (n := n) (ys := sbody (gSu D)) hn (sbody_wf _) (seals_ok h1 (by rw [sbody_length]; decide))
    have hsl : (sealed n (sbody (gSu D))).length = 64 := sealed_length (by rw [sbody_length]; decide)
    clear hDi hDw hg hid hwf
    unfold gSu at *
    generalize gB D 0 8 = i at *
    generalize gB D 8 1 = m at *
    generalize gB D 9 2 = s at *
    generalize gB D 11 2 = r at *
    generalize gB D 13 1 = se at *
    generalize gB D 18 2 = cu at *
    generalize gB D 20 1 = gn at *
    generalize gSt D = l at *
    generalize hqn : (gn == 1) = q at *
    have hq : ((gn : Int) == 1) = q := by rw [← hqn, Bool.eq_iff_iff]; simp; omega
    rw [hok]
    clear hok hqn
    generalize sealed n (sbody ⟨i, (se : Int), ⟨(m : Int), (s : Int), (r : Int), l, (cu : Int), q⟩⟩) = X at *
    generalize sbody ⟨i, (se : Int), ⟨(m : Int), (s : Int), (r : Int), l, (cu : Int), q⟩⟩ = B at *
    generalize mayS ⟨i, (se : Int), ⟨(m : Int), (s : Int), (r : Int), l, (cu : Int), q⟩⟩ = z at pm pb ⊢
    by_cases hb : 1 ≤ n ∧ n ≤ 4611686018427387904
    · rw [decide_eq_true hb] at pe ⊢
      cases z with
      | false =>
        rw [if_neg (fun h => by simp at h)]
        exact rGet_3 xs (Lib.hid hl) D l (Lib.hid hDl) (Lib.hid hls) n i m s r se cu gn hn l0 l1 l2 l3 l4 l5 l6 q hq (Lib.hid hg20) (Lib.hid PG) (Lib.hid P0) (Lib.hid P1) (Lib.hid P2) (Lib.hid P3) (Lib.hid P4) (Lib.hid P5) (Lib.hid P6) (Lib.hid PU) (Lib.hid pe) (Lib.hid pm) w
      | true =>
        have pb := pb rfl
        have pp := pp (by omega)
        by_cases h2 : X = xs
        · rw [if_pos ⟨rfl, hsame.1 h2⟩]
          exact rGet_5 xs (Lib.hid hl) D l (Lib.hid hDl) (Lib.hid hls) n i m s r se cu gn hn l0 l1 l2 l3 l4 l5 l6 q hq (Lib.hid hg20) X (Lib.hid hsl) (Lib.hid (decide_eq_true h2)) (Lib.hid PG) (Lib.hid P0) (Lib.hid P1) (Lib.hid P2) (Lib.hid P3) (Lib.hid P4) (Lib.hid P5) (Lib.hid P6) (Lib.hid PU) (Lib.hid pe) (Lib.hid pm) B (Lib.hid pb) (Lib.hid pp) w
        · rw [if_neg (fun h => h2 (hsame.2 h.2))]
          exact rGet_4 xs (Lib.hid hl) D l (Lib.hid hDl) (Lib.hid hls) n i m s r se cu gn hn l0 l1 l2 l3 l4 l5 l6 q hq (Lib.hid hg20) X (Lib.hid hsl) (Lib.hid (decide_eq_false h2)) (Lib.hid PG) (Lib.hid P0) (Lib.hid P1) (Lib.hid P2) (Lib.hid P3) (Lib.hid P4) (Lib.hid P5) (Lib.hid P6) (Lib.hid PU) (Lib.hid pe) (Lib.hid pm) B (Lib.hid pb) (Lib.hid pp) w
    · rw [decide_eq_false hb] at pe ⊢
      rw [if_neg (fun h => by simp at h)]
      exact rGet_2 xs (Lib.hid hl) D l (Lib.hid hDl) (Lib.hid hls) n i m s r se cu gn hn l0 l1 l2 l3 l4 l5 l6 q hq (Lib.hid hg20) (Lib.hid PG) (Lib.hid P0) (Lib.hid P1) (Lib.hid P2) (Lib.hid P3) (Lib.hid P4) (Lib.hid P5) (Lib.hid P6) (Lib.hid PU) (Lib.hid pe) w
  · rw [gotS_err h0]
    have hk := bne_iff_ne.2 h0
    have PG := rget_n hl hw
    generalize (gots xs).2.2 = k at *
    generalize (gots xs).1 = n at *
    exact rGet_err xs hl n k hk PG w
end Go.Proofs.Ytdchcggllcgokaa.Q
