/-
  Superblocks: what a sealed sector's body tells: plain laws. slices.ContainsFunc at super.Get$1. super.Get at an error of seal.Get. ashlarref08.Get: laws for the walk; at an error of ashlarref07.Get. Superblocks: which of two sectors counts, and what a torn one tells: plain laws.
-/
import Derived.Test.YtdchcggllcgokaaSqM
import Derived.Test.YtdchcggllcgokaaSpL
import Derived.Test.YtdchcggllcgokaaSpC
import Derived.Test.YtdchcggllcgokaaSqN
import Derived.Deep.RegionHeld3
import Derived.Deep.MidRow
namespace Go.Proofs.Ytdchcggllcgokaa.Q
open Go.RowKit Go.Proofs.Ytdchcggllcgokaa.L Go.Proofs.Ytdchcggllcgokaa.U Go.Proofs.Ytdchcggllcgokaa.E Go.Proofs.Ytdchcggllcgokaa.R Go.Proofs.YtdchcggllcgokaaW.PrintWords
set_option linter.unusedVariables false
set_option linter.unusedSimpArgs false
theorem byt_lt (n i : Nat) : byt n i < 256 := Nat.mod_lt _ (by decide)
theorem byt_vle {f : Nat → Nat} (hf : ∀ i, f i < 256) {s i : Nat} (h : i < s) : byt (vle f s) i = f i :=
  vle_inj (fun i => byt_lt _ i) hf s (by rw [vle_byt, Nat.mod_eq_of_lt (vle_lt f hf s)]) i h
/-- bytes that are got are put again -/
theorem put_get {xs : List Int} (hw : Wf8 xs) {a s : Nat} (h : a + s ≤ xs.length) : putb (vle (bat xs a) s) s = (xs.drop a).take s := by
  apply List.ext_getElem
  · rw [putb_length, List.length_take, List.length_drop]; omega
  · intro i h1 h2
    rw [putb_length] at h1
    simp only [putb, List.getElem_map, List.getElem_range, List.getElem_take, List.getElem_drop]
    rw [byt_vle (bat_lt hw a) h1, bat]
    have h3 := rd_byte hw (a + i)
    have h4 : rd xs ((a + i : Nat) : Int) = xs[a + i] := by rw [rd, Int.toNat_natCast, List.getD_eq_getElem?_getD, List.getElem?_eq_getElem (by omega), Option.getD_some]
    rw [← h4]; omega
/-- what is got sealed is the sealed sector of what it tells -/
theorem reseal {xs D : List Int} {n : Nat} (hl : xs.length = 64) (hw : Wf8 xs) (h : gots xs = (n, D, 0)) : n ≠ 0 ∧ D = inner xs ∧ sealed n D = xs := by
  unfold gots at h
  split at h
  · exact absurd (congrArg (fun z => z.2.2) h) (by simp)
  · rename_i h1
    split at h
    · exact absurd (congrArg (fun z => z.2.2) h) (by simp)
    · rename_i h2
      have e1 : first xs = n := congrArg (fun z => z.1) h
      have e2 : inner xs = D := congrArg (fun z => z.2.1) h
      have h3 : first xs = last xs := by
        by_cases h4 : first xs = last xs
        · exact h4
        · exact absurd (.inr h4) h1
      have h5 : crcs (xs.take 52) = told xs := by
        by_cases h6 : crcs (xs.take 52) = told xs
        · exact h6
        · exact absurd h6 h2
      have hD : D.length = 44 := by rw [← e2]; exact inner_length hl
      have p1 : putb n 8 = xs.take 8 := by
        have h7 := put_get hw (a := 0) (s := 8) (by omega)
        rw [← e1, first, h7, List.drop_zero]
      have p2 : putb n 8 = xs.drop 56 := by
        have h7 := put_get hw (a := 56) (s := 8) (by omega)
        rw [← e1, h3, last, h7, List.take_of_length_le (by rw [List.length_drop]; omega)]
      have p3 : putb (told xs) 4 = (xs.drop 52).take 4 := put_get hw (a := 52) (s := 4) (by omega)
      have t52 : xs.take 52 = xs.take 8 ++ (xs.drop 8).take 44 := (List.take_add (i := 8) (j := 44) (l := xs)).symm ▸ rfl
      have f1 : front n D = xs.take 52 := by
        rw [front, hD, p1, t52, ← e2, inner]; simp
      refine ⟨fun h0 => h1 (.inl (by rw [e1, h0])), e2.symm, ?_⟩
      rw [sealed, f1, h5, p3, p2]
      have d56 : xs.drop 56 = (xs.drop 52).drop 4 := by rw [List.drop_drop]
      rw [d56, List.take_append_drop, List.take_append_drop]

def gB (D : List Int) (a s : Nat) : Nat := vle (bat D a) s
theorem gB_lt {D : List Int} (hw : Wf8 D) (a s : Nat) : gB D a s < 256 ^ s := vle_lt _ (bat_lt hw a) s
def gSt (D : List Int) : List Int := items (val (D.drop 14)) 2 16
theorem gSt_length (D : List Int) : (gSt D).length = 16 := items_length _ _ _
theorem gSt_wf (D : List Int) : Wf8 (gSt D) := items_wf _ _ _ (by decide)
abbrev gSu (D : List Int) : Su := ⟨gB D 0 8, (gB D 13 1 : Int), ⟨(gB D 8 1 : Int), (gB D 9 2 : Int), (gB D 11 2 : Int), gSt D, (gB D 18 2 : Int), gB D 20 1 == 1⟩⟩
theorem gSu_wf (D : List Int) : Wf (gSu D).x := ⟨gSt_length D, gSt_wf D⟩
theorem val_items (u : Nat → Nat) {i : Nat} (h : i < 16) : val (items u 2 16) i = item u 2 i := by
  rw [val, rd, Int.toNat_natCast, List.getD_eq_getElem?_getD, List.getElem?_eq_getElem (by rw [items_length]; exact h), Option.getD_some]
  simp [items]
/-- states that are read are laid as the same bytes -/
theorem byt8_items (u : Nat → Nat) (hu : ∀ j, u j < 256) {j : Nat} (h : j < 4) : V.byt8 (V.part (val (items u 2 16)) 2 16) j = u j := by
  rw [← V.pack_self (n := u j) (k := 8) (hu j)]
  apply V.pack_congr
  intro k hk
  have h1 : (8 * j + k) / 2 < 16 := by omega
  have h2 : 8 * j + k < 16 * 2 := by omega
  have h3 : (8 * j + k) / 2 * 2 + (8 * j + k) % 2 = 8 * j + k := by omega
  have h4 : (8 * j + k) / 8 = j := by omega
  have h5 : (8 * j + k) % 8 = k := by omega
  rw [V.part, decide_eq_true h2, Bool.true_and, V.bitv, val_items u h1, item, V.testBit_pack, decide_eq_true (Nat.mod_lt _ (by decide)), Bool.true_and, h3, V.bitv, h4, h5]
theorem pk_gSt {D : List Int} (hw : Wf8 D) (hl : D.length = 44) : pk (gSt D) = (D.drop 14).take 4 := by
  have hw4 : Wf8 (D.drop 14) := wf_drop hw 14
  apply List.ext_getElem
  · rw [pk_length, List.length_take, List.length_drop]; omega
  · intro i h1 h2
    rw [pk_length] at h1
    have h3 := byt8_items (val (D.drop 14)) (fun j => (val_rd hw4 j).2) h1
    have h4 := (val_rd hw4 i).1
    rw [rd, Int.toNat_natCast, List.getD_eq_getElem?_getD, List.getElem?_eq_getElem (by rw [List.length_drop]; omega), Option.getD_some] at h4
    rw [List.getElem_take, h4]
    have h6 : (pk (gSt D))[i] = (V.byt8 (V.part (val (gSt D)) 2 16) i : Int) := by simp [pk, V.bytes]
    refine h6.trans ?_
    rw [show V.byt8 (V.part (val (gSt D)) 2 16) i = val (D.drop 14) i from h3]
theorem sbody_take {D : List Int} (hw : Wf8 D) (hl : D.length = 44) : sbody (gSu D) = D.take 20 ++ [if gB D 20 1 = 1 then 1 else 0] := by
  have h0 : D.take 9 = D.take 8 ++ (D.drop 8).take 1 := (List.take_add (i := 8) (j := 1) (l := D)).symm ▸ rfl
  have h1 : D.take 11 = D.take 9 ++ (D.drop 9).take 2 := (List.take_add (i := 9) (j := 2) (l := D)).symm ▸ rfl
  have h2 : D.take 13 = D.take 11 ++ (D.drop 11).take 2 := (List.take_add (i := 11) (j := 2) (l := D)).symm ▸ rfl
  have h3 : D.take 14 = D.take 13 ++ (D.drop 13).take 1 := (List.take_add (i := 13) (j := 1) (l := D)).symm ▸ rfl
  have h4 : D.take 18 = D.take 14 ++ (D.drop 14).take 4 := (List.take_add (i := 14) (j := 4) (l := D)).symm ▸ rfl
  have h5 : D.take 20 = D.take 18 ++ (D.drop 18).take 2 := (List.take_add (i := 18) (j := 2) (l := D)).symm ▸ rfl
  rw [sbody]
  simp only [Int.toNat_natCast]
  rw [pk_gSt hw hl]
  simp only [gB]
  rw [put_get hw (by omega), put_get hw (by omega), put_get hw (by omega), put_get hw (by omega), put_get hw (by omega), put_get hw (by omega), List.drop_zero, ← h0, ← h1, ← h2, ← h3, ← h4, ← h5]
  by_cases h : vle (bat D 20) 1 = 1 <;> simp [h]
theorem byte_20 {D : List Int} (hw : Wf8 D) (hl : D.length = 44) : (D.drop 20).take 1 = [(gB D 20 1 : Int)] := by
  rw [← put_get hw (a := 20) (s := 1) (by omega)]
  have h := gB_lt hw 20 1
  rw [gB] at h ⊢
  generalize vle (bat D 20) 1 = k at h ⊢
  simp [putb, byt]
  omega
theorem same_super {xs D : List Int} {n : Nat} (hl : xs.length = 64) (hw : Wf8 xs) (h : gots xs = (n, D, 0)) : sealed n (sbody (gSu D)) = xs ↔ gB D 20 1 ≤ 1 ∧ D.drop 21 = Z 23 := by
  obtain ⟨h0, hD, hs⟩ := reseal hl hw h
  have hDl : D.length = 44 := by rw [hD]; exact inner_length hl
  have hDw : Wf8 D := by rw [hD]; exact inner_wf hw
  have hb := sbody_take hDw hDl
  have hbl := sbody_length (gSu D)
  have h20 := byte_20 hDw hDl
  have t21 : D.take 21 = D.take 20 ++ (D.drop 20).take 1 := (List.take_add (i := 20) (j := 1) (l := D)).symm ▸ rfl
  constructor
  · intro he
    have h1 : inner (sealed n (sbody (gSu D))) = sbody (gSu D) ++ Z (44 - (sbody (gSu D)).length) := inner_sealed (by rw [hbl]; decide)
    rw [he, ← hD, hbl] at h1
    have h2 : D.drop 21 = (sbody (gSu D) ++ Z 23).drop 21 := by rw [← h1]
    have h3 : D.take 21 = (sbody (gSu D) ++ Z 23).take 21 := by rw [← h1]
    refine ⟨?_, by rw [h2, List.drop_left' hbl]⟩
    rw [List.take_left' hbl, hb, t21, h20] at h3
    have h4 := List.append_cancel_left h3
    have h5 : (gB D 20 1 : Int) = if gB D 20 1 = 1 then 1 else 0 := by simpa using h4
    split at h5 <;> omega
  · rintro ⟨hg, he⟩
    have h1 : sbody (gSu D) = D.take 21 := by
      rw [hb, t21, h20]
      congr 2
      split <;> omega
    have h3 : D = D.take 21 ++ Z 23 := by rw [← he, List.take_append_drop]
    have ht : (D.take 21).length = 21 := by rw [List.length_take]; omega
    have h2 : front n (D.take 21) = front n D := by
      rw [front, front, ht, hDl]
      conv => rhs; rw [h3]
      simp [Z]
    rw [← hs, h1, sealed, sealed, h2]
abbrev SQ := (Nat × Su) × Int
noncomputable def gotS (xs : List Int) : SQ :=
  if (gots xs).2.2 ≠ 0 then ((0, su0), (gots xs).2.2)
  else if okS (gots xs).1 (gSu (gots xs).2.1) = true ∧ gB (gots xs).2.1 20 1 ≤ 1 ∧ (gots xs).2.1.drop 21 = Z 23 then (((gots xs).1, gSu (gots xs).2.1), 0)
  else ((0, su0), 5)
theorem gots_lt {xs : List Int} (hw : Wf8 xs) : (gots xs).1 < 18446744073709551616 := by
  unfold gots
  split
  · exact Nat.zero_lt_succ _
  · split
    · exact Nat.zero_lt_succ _
    · exact vle_lt _ (bat_lt hw 0) 8
theorem gotS_err {xs : List Int} (h0 : ¬ (gots xs).2.2 = 0) : gotS xs = ((0, su0), (gots xs).2.2) := by rw [gotS, if_pos h0]
theorem gotS_ok {xs D : List Int} {n : Nat} (hg : gots xs = (n, D, 0)) : gotS xs = if okS n (gSu D) = true ∧ gB D 20 1 ≤ 1 ∧ D.drop 21 = Z 23 then ((n, gSu D), 0) else ((0, su0), 5) := by
  rw [gotS, hg]
  exact if_neg (fun h => h rfl)
theorem okS_n {n : Nat} {y : Su} (h : okS n y = true) : 1 ≤ n ∧ n ≤ 4611686018427387904 ∧ mayS y = true := by
  rw [okS, Bool.and_eq_true, decide_eq_true_eq] at h
  exact ⟨h.1.1, h.1.2, h.2⟩
theorem gotS_back {xs : List Int} (hl : xs.length = 64) (hw : Wf8 xs) {n : Nat} {y : Su} (h : gotS xs = ((n, y), 0)) : okS n y = true ∧ sealed n (sbody y) = xs ∧ Wf y.x ∧ y.id < 18446744073709551616 := by
  obtain ⟨⟨k, D, e⟩, hg⟩ : ∃ q, gots xs = q := ⟨_, rfl⟩
  by_cases h0 : e = 0
  · subst h0
    have hsn := same_super hl hw hg
    have hDw : Wf8 D := by rw [(reseal hl hw hg).2.1]; exact inner_wf hw
    rw [gotS_ok hg] at h
    split at h
    · rename_i hc
      have e1 : k = n := congrArg (fun z => z.1.1) h
      have e2 : gSu D = y := congrArg (fun z => z.1.2) h
      subst e1 e2
      exact ⟨hc.1, hsn.2 hc.2, gSu_wf D, gB_lt hDw 0 8⟩
    · exact absurd (congrArg (fun z => z.2) h) (by simp)
  · rw [gotS_err (by rw [hg]; exact h0), hg] at h
    exact absurd (congrArg (fun z => z.2) h) h0
theorem gotS_no {xs : List Int} {q : Nat × Su} {k : Int} (h : gotS xs = (q, k)) (hk : k ≠ 0) : q = (0, su0) := by
  obtain ⟨⟨n, D, j⟩, hg⟩ : ∃ q, gots xs = q := ⟨_, rfl⟩
  by_cases h0 : j = 0
  · subst h0
    rw [gotS_ok hg] at h
    split at h
    · exact absurd (congrArg (fun z => z.2) h).symm hk
    · exact (congrArg (fun z => z.1) h).symm
  · rw [gotS_err (by rw [hg]; exact h0)] at h
    exact (congrArg (fun z => z.1) h).symm
/-- what is put is got -/
theorem gB_mid (k s : Nat) (h : k < 256 ^ s) (p q D : List Int) (o : Nat) (hp : p.length = o) (hD : D = p ++ (putb k s ++ q)) : gB D o s = k := by
  subst hp hD
  exact get_put k s h p q
theorem gSu_pad {y : Su} (hm : mayS y = true) (hx : Wf y.x) (hi : y.id < 18446744073709551616) : gSu (sbody y ++ Z 23) = y ∧ gB (sbody y ++ Z 23) 20 1 ≤ 1 := by
  obtain ⟨i, se, m, s, r, cu, st, go, rfl, h0, h1, h2, h3, h4, h5, h6, h7, h8, h9⟩ := may_nats hm
  obtain ⟨b, hb⟩ : ∃ b : Nat, b = if go = true then 1 else 0 := ⟨_, rfl⟩
  have hb2 : b < 2 := by rw [hb]; split <;> decide
  have hbody : sbody ⟨i, (se : Int), ⟨(m : Int), (s : Int), (r : Int), st, (cu : Int), go⟩⟩ = ((((((putb i 8 ++ putb m 1) ++ putb s 2) ++ putb r 2) ++ putb se 1) ++ pk st) ++ putb cu 2) ++ putb b 1 := by
    rw [sbody, hb]
    cases go <;> rfl
  have hi : i < 18446744073709551616 := hi
  rw [hbody]
  have a0 := gB_mid i 8 (by omega) [] (putb m 1 ++ (putb s 2 ++ (putb r 2 ++ (putb se 1 ++ (pk st ++ (putb cu 2 ++ (putb b 1 ++ Z 23))))))) (((((((putb i 8 ++ putb m 1) ++ putb s 2) ++ putb r 2) ++ putb se 1) ++ pk st) ++ putb cu 2) ++ putb b 1 ++ Z 23) 0 rfl (by simp only [List.append_assoc, List.nil_append])
  have a1 := gB_mid m 1 (by omega) (putb i 8) (putb s 2 ++ (putb r 2 ++ (putb se 1 ++ (pk st ++ (putb cu 2 ++ (putb b 1 ++ Z 23)))))) (((((((putb i 8 ++ putb m 1) ++ putb s 2) ++ putb r 2) ++ putb se 1) ++ pk st) ++ putb cu 2) ++ putb b 1 ++ Z 23) 8 (by simp [putb_length]) (by simp only [List.append_assoc])
  have a2 := gB_mid s 2 (by omega) (putb i 8 ++ putb m 1) (putb r 2 ++ (putb se 1 ++ (pk st ++ (putb cu 2 ++ (putb b 1 ++ Z 23))))) (((((((putb i 8 ++ putb m 1) ++ putb s 2) ++ putb r 2) ++ putb se 1) ++ pk st) ++ putb cu 2) ++ putb b 1 ++ Z 23) 9 (by simp [putb_length]) (by simp only [List.append_assoc])
  have a3 := gB_mid r 2 (by omega) (putb i 8 ++ putb m 1 ++ putb s 2) (putb se 1 ++ (pk st ++ (putb cu 2 ++ (putb b 1 ++ Z 23)))) (((((((putb i 8 ++ putb m 1) ++ putb s 2) ++ putb r 2) ++ putb se 1) ++ pk st) ++ putb cu 2) ++ putb b 1 ++ Z 23) 11 (by simp [putb_length]) (by simp only [List.append_assoc])
  have a4 := gB_mid se 1 (by omega) (putb i 8 ++ putb m 1 ++ putb s 2 ++ putb r 2) (pk st ++ (putb cu 2 ++ (putb b 1 ++ Z 23))) (((((((putb i 8 ++ putb m 1) ++ putb s 2) ++ putb r 2) ++ putb se 1) ++ pk st) ++ putb cu 2) ++ putb b 1 ++ Z 23) 13 (by simp [putb_length]) (by simp only [List.append_assoc])
  have a5 := gB_mid cu 2 (by omega) (putb i 8 ++ putb m 1 ++ putb s 2 ++ putb r 2 ++ putb se 1 ++ pk st) (putb b 1 ++ Z 23) (((((((putb i 8 ++ putb m 1) ++ putb s 2) ++ putb r 2) ++ putb se 1) ++ pk st) ++ putb cu 2) ++ putb b 1 ++ Z 23) 18 (by simp [putb_length, pk_length]) (by simp only [List.append_assoc])
  have a6 := gB_mid b 1 (by omega) (putb i 8 ++ putb m 1 ++ putb s 2 ++ putb r 2 ++ putb se 1 ++ pk st ++ putb cu 2) (Z 23) (((((((putb i 8 ++ putb m 1) ++ putb s 2) ++ putb r 2) ++ putb se 1) ++ pk st) ++ putb cu 2) ++ putb b 1 ++ Z 23) 20 (by simp [putb_length, pk_length]) (by simp only [List.append_assoc])
  have hd : (((((((putb i 8 ++ putb m 1) ++ putb s 2) ++ putb r 2) ++ putb se 1) ++ pk st) ++ putb cu 2) ++ putb b 1 ++ Z 23).drop 14 = pk st ++ (putb cu 2 ++ (putb b 1 ++ Z 23)) := by
    have h : ((putb i 8 ++ putb m 1 ++ putb s 2 ++ putb r 2 ++ putb se 1) ++ (pk st ++ (putb cu 2 ++ (putb b 1 ++ Z 23)))).drop 14 = pk st ++ (putb cu 2 ++ (putb b 1 ++ Z 23)) := List.drop_left' (by simp [putb_length])
    rw [← h]
    simp only [List.append_assoc]
  have hst : gSt (((((((putb i 8 ++ putb m 1) ++ putb s 2) ++ putb r 2) ++ putb se 1) ++ pk st) ++ putb cu 2) ++ putb b 1 ++ Z 23) = st := by
    have hsl : st.length = 16 := hx.1
    have h := unb_bits (xs := st) (ys := putb cu 2 ++ (putb b 1 ++ Z 23)) (s := 2) hx.2 (by decide) (by decide) (by omega) (fun i hi => by
      have h2 := h9 i (by omega)
      show (rd st (i : Int)).toNat < 4
      omega)
    rw [hsl] at h
    have h2 : unbs (pk st ++ (putb cu 2 ++ (putb b 1 ++ Z 23))) 2 16 = (st, 0) := h
    rw [unbs, if_neg (by decide), if_neg (by simp [putb_length, pk_length, Z_length])] at h2
    rw [gSt, hd]
    exact congrArg (fun z => z.1) h2
  rw [gSu, a0, a1, a2, a3, a4, a5, a6, hst]
  refine ⟨?_, by omega⟩
  have hg : (b == 1) = go := by rw [hb]; cases go <;> rfl
  rw [hg]
theorem gotS_put {n : Nat} {y : Su} (hm : okS n y = true) (hx : Wf y.x) (hi : y.id < 18446744073709551616) : gotS (sealed n (sbody y)) = ((n, y), 0) := by
  have ho := okS_n hm
  have hg := gots_sealed (n := n) (ys := sbody y) (by omega) (by omega) (by rw [sbody_length]; decide)
  rw [sbody_length] at hg
  have hg' : gots (sealed n (sbody y)) = (n, sbody y ++ Z 23, 0) := hg
  obtain ⟨h1, h2⟩ := gSu_pad ho.2.2 hx hi
  rw [gotS_ok hg', h1, if_pos ⟨hm, h2, List.drop_left' (sbody_length y)⟩]
theorem gotS_len (xs : List Int) : (gotS xs).1.2.x.st.length = 16 := by
  rw [gotS]
  split
  · exact zero16_length
  · split
    · exact gSt_length _
    · exact zero16_length
end Go.Proofs.Ytdchcggllcgokaa.Q

namespace Go.Proofs.Ytdchcggllcgokaa.Q
open Go.RowKit Go.Proofs.Ytdchcggllcgokaa.L Go.Proofs.Ytdchcggllcgokaa.U Go.Proofs.Ytdchcggllcgokaa.E Go.Proofs.Ytdchcggllcgokaa.R Go.Proofs.YtdchcggllcgokaaW.PrintWords
set_option linter.unusedVariables false
set_option linter.unusedSimpArgs false
theorem fn_any (v : Int) (b : Bool) (hb : (v != 0) = b) (w : World) : Calls Try.prog 137 #[.int .u8 v] w fun e w' => e = .returned (.bool b) ∧ Below w.heap.size w w' := by
  subst hb
  go_enter Try.func137, Try.ntmps137
  go_wp2
  go_ret
  exact ⟨rfl, Below.refl _ _⟩
set_option maxRecDepth 100000 in
set_option maxHeartbeats 2000000 in
theorem Idx_none (A : Option Addr) (c n : Nat) (ys : List Int) (hn : n ≤ 64) (h0 : Hid (∀ j : Nat, j < n → rd ys j = 0)) (w : World) (hr : Hid (ReadsInt w .u8 A n ys)) :
    Calls Try.prog 150 #[.slice A n c, .func (.func 137) #[] #[]] w fun e w' => e = .returned (.int .i64 (-1)) ∧ Below w.heap.size w w' := by
  go_enter Try.func150, Try.ntmps150
  go_wp2
  go_loopw [8] (fun i wr => ∃ q : Nat, q ≤ n ∧ i = .int .i64 (q : Int) ∧ Hid (∀ j : Nat, j < q → rd ys j = 0) ∧ Hid (ReadsInt wr .u8 A n ys) ∧ Hid (Below w.heap.size w wr)) (fun i _ => 64 - (intOf i).toNat)
  case atStart => exact ⟨0, by omega, rfl, Lib.hid (fun j h => absurd h (by omega)), hr, Lib.hid (Below.refl _ _)⟩
  case round =>
    clear hr
    obtain ⟨q, hq, rfl, HA, HR, HB⟩ := hrel
    by_cases hlt : q < n
    · obtain ⟨ax, rfl, cx⟩ := HR.out.at_ (q : Int) (by omega) (by omega)
      simp only [Int.toNat_natCast] at cx
      have hi0 : (0 : Int) ≤ (q : Int) := by omega
      by_cases he : rd ys q = 0
      · have PF := Lib.hid (fn_any (rd ys q) false (by simp [he]))
        have HE := Lib.hid he
        clear he
        go_wp2_with (first
          | (go_at_call 137; refine (PF.out _).mono ?_; rintro e w2 ⟨rfl, hb⟩; replace HR := Lib.hid (HR.out.below hb); replace HB := Lib.hid (below_ext HB.out hb); clear hb cx))
        go_roundw
        case rel =>
          refine ⟨q + 1, by omega, by go_num, Lib.hid (fun j h => ?_), HR, HB⟩
          rcases Nat.lt_or_ge j q with h | h
          · exact HA.out j h
          · obtain rfl : j = q := by omega
            exact HE.out
        case measure => simp [intOf]; omega
      · exact absurd (h0.out q hlt) he
    · go_wp2
      go_ret
      exact ⟨rfl, HB.out⟩
set_option maxRecDepth 100000 in
set_option maxHeartbeats 2000000 in
theorem Idx_some (A : Option Addr) (c n : Nat) (ys : List Int) (hn : n ≤ 64) (k : Nat) (hk : k < n) (h0 : Hid (∀ j : Nat, j < k → rd ys j = 0)) (h1 : Hid (rd ys k ≠ 0)) (w : World) (hr : Hid (ReadsInt w .u8 A n ys)) :
    Calls Try.prog 150 #[.slice A n c, .func (.func 137) #[] #[]] w fun e w' => e = .returned (.int .i64 ((k : Int))) ∧ Below w.heap.size w w' := by
  go_enter Try.func150, Try.ntmps150
  go_wp2
  go_loopw [8] (fun i wr => ∃ q : Nat, q ≤ n ∧ i = .int .i64 (q : Int) ∧ Hid (∀ j : Nat, j < q → rd ys j = 0) ∧ Hid (ReadsInt wr .u8 A n ys) ∧ Hid (Below w.heap.size w wr)) (fun i _ => 64 - (intOf i).toNat)
  case atStart => exact ⟨0, by omega, rfl, Lib.hid (fun j h => absurd h (by omega)), hr, Lib.hid (Below.refl _ _)⟩
  case round =>
    clear hr
    obtain ⟨q, hq, rfl, HA, HR, HB⟩ := hrel
    by_cases hlt : q < n
    · obtain ⟨ax, rfl, cx⟩ := HR.out.at_ (q : Int) (by omega) (by omega)
      simp only [Int.toNat_natCast] at cx
      have hi0 : (0 : Int) ≤ (q : Int) := by omega
      by_cases he : rd ys q = 0
      · have PF := Lib.hid (fn_any (rd ys q) false (by simp [he]))
        have HE := Lib.hid he
        clear he
        go_wp2_with (first
          | (go_at_call 137; refine (PF.out _).mono ?_; rintro e w2 ⟨rfl, hb⟩; replace HR := Lib.hid (HR.out.below hb); replace HB := Lib.hid (below_ext HB.out hb); clear hb cx))
        go_roundw
        case rel =>
          refine ⟨q + 1, by omega, by go_num, Lib.hid (fun j h => ?_), HR, HB⟩
          rcases Nat.lt_or_ge j q with h | h
          · exact HA.out j h
          · obtain rfl : j = q := by omega
            exact HE.out
        case measure => simp [intOf]; omega
      · have hqk : q = k := by
          rcases Nat.lt_trichotomy q k with h | h | h
          · exact absurd (h0.out q h) he
          · exact h
          · exact absurd (HA.out k h) h1.out
        subst hqk
        have PF := Lib.hid (fn_any (rd ys q) true (by simp [he]))
        clear he
        go_wp2_with (first
          | (go_at_call 137; refine (PF.out _).mono ?_; rintro e w2 ⟨rfl, hb⟩; replace HB := Lib.hid (below_ext HB.out hb); clear hb cx))
        go_ret
        exact ⟨rfl, HB.out⟩
    · exact absurd (HA.out k (by omega)) h1.out
theorem Cont_walk (A : Option Addr) (c n : Nat) (m : Int) (b : Bool) {w0 : World} (hb : decide (0 ≤ m) = b)
    (PI : Hid (∀ w : World, Hid (Below w0.heap.size w0 w) → Calls Try.prog 150 #[.slice A n c, .func (.func 137) #[] #[]] w fun e w' => e = .returned (.int .i64 m) ∧ Below w.heap.size w w')) :
    Calls Try.prog 136 #[.slice A n c, .func (.func 137) #[] #[]] w0 fun e w' => e = .returned (.bool b) ∧ Below w0.heap.size w0 w' := by
  subst hb
  have P0 := PI.out w0 (Lib.hid (Below.refl _ _))
  clear PI
  go_enter Try.func136, Try.ntmps136
  go_wp2_with (first
    | (go_at_call 150; refine P0.mono ?_; rintro e w2 ⟨rfl, hb⟩; have HB := Lib.hid hb; clear hb P0))
  go_ret
  exact ⟨rfl, HB.out⟩
/-- are there bytes that are not 0? -/
theorem Cont_any (A : Option Addr) (c n : Nat) (ys : List Int) (hn : n ≤ 64) (w : World) (hr : ReadsInt w .u8 A n ys) :
    Calls Try.prog 136 #[.slice A n c, .func (.func 137) #[] #[]] w fun e w' => e = .returned (.bool (!decide (ys = Z n))) ∧ Below w.heap.size w w' := by
  have hl : ys.length = n := hr.1
  by_cases hz : ∀ j : Nat, j < n → rd ys j = 0
  · have he : ys = Z n := by
      apply List.ext_getElem
      · rw [hl, Z_length]
      · intro j h1 h2
        have h3 := hz j (by omega)
        rw [rd, Int.toNat_natCast, List.getD_eq_getElem?_getD, List.getElem?_eq_getElem h1, Option.getD_some] at h3
        rw [h3]; simp [Z]
    rw [show (!decide (ys = Z n)) = false by simp [he]]
    exact Cont_walk A c n (-1) false rfl (Lib.hid fun w2 hb => Idx_none A c n ys hn (Lib.hid hz) w2 (Lib.hid (hr.below hb.out)))
  · have hne : ¬ ys = Z n := fun he => hz fun j hj => by rw [he, rd, Int.toNat_natCast]; simp [Z, List.getD_eq_getElem?_getD, hj]
    rw [show (!decide (ys = Z n)) = true by simp [hne]]
    have hex : ∃ k, k < n ∧ rd ys (k : Nat) ≠ 0 := by
      by_cases h : ∃ k, k < n ∧ rd ys (k : Nat) ≠ 0
      · exact h
      · exact absurd (fun j hj => Classical.byContradiction fun h2 => h ⟨j, hj, h2⟩) hz
    obtain ⟨k, hk, h1, h0⟩ : ∃ k, k < n ∧ rd ys (k : Nat) ≠ 0 ∧ ∀ j : Nat, j < k → rd ys j = 0 := by
      obtain ⟨k0, hk0, h10⟩ := hex
      induction k0 using Nat.strongRecOn with
      | _ k0 ih =>
        by_cases h : ∃ j, j < k0 ∧ rd ys (j : Nat) ≠ 0
        · obtain ⟨j, hj, hj2⟩ := h
          exact ih j hj (by omega) hj2
        · exact ⟨k0, hk0, h10, fun j hj => Classical.byContradiction fun h2 => h ⟨j, hj, h2⟩⟩
    exact Cont_walk A c n (k : Int) true (by simp) (Lib.hid fun w2 hb => Idx_some A c n ys hn k hk (Lib.hid h0) (Lib.hid h1) w2 (Lib.hid (hr.below hb.out)))
end Go.Proofs.Ytdchcggllcgokaa.Q

namespace Go.Proofs.Ytdchcggllcgokaa.Q
open Go.RowKit Go.Proofs.Ytdchcggllcgokaa.L Go.Proofs.Ytdchcggllcgokaa.U Go.Proofs.Ytdchcggllcgokaa.E Go.Proofs.Ytdchcggllcgokaa.R Go.Proofs.YtdchcggllcgokaaW.PrintWords
set_option linter.unusedVariables false
set_option linter.unusedSimpArgs false
set_option maxRecDepth 100000 in
set_option maxHeartbeats 2000000 in
theorem sGet_1 (xs : List Int) (HX : Hid (xs.length = 64)) (n : Nat) (k : Int) (hk : (k != 0) = true) (PG : Hid (GetN xs n k)) (w : World) : Calls Try.prog 103 #[blk xs] w fun e w' => e = .returned (.tuple #[.int .u64 0, sup su0, .int .i64 k]) ∧ Below w.heap.size w w' := by
  have HB := Lib.hid (Below.refl w.heap.size w)
  have tok0 : True := trivial
  have tp0 : True := trivial
  go_enter Try.func103, Try.ntmps103
  go_wp2_with (first
    | (go_skip)
    | (refine F.blkBox (.tmp 0) rfl rfl HX.out rfl ?_; intro w1 hk hb1 hz1; replace HB := Lib.hid (below_ext HB.out hb1); have K1 := Lib.hid hk; clear hk hb1)
    | (have _t := tok0; refine supAlloc rfl rfl ?_; intro w2 hk hb2 hz2; replace K1 := Lib.hid (K1.out.below hb2); replace HB := Lib.hid (below_ext HB.out hb2); have K3 := Lib.hid hk; clear hk hb2; have tok1 : True := trivial; clear _t tok0)
    | (refine F.blkLoad (.tmp 1) rfl K1.out rfl rfl ?_)
    | (have _t := tp0; go_at_call 59; refine (PG.out _).mono ?_; rintro e w3 ⟨⟨A1, c1, l1, rfl⟩, hb3⟩; replace K1 := Lib.hid (K1.out.below hb3); replace K3 := Lib.hid (K3.out.below hb3); replace HB := Lib.hid (below_ext HB.out hb3); have hz3 := hb3.size; clear hb3; have tp1 : True := trivial; clear _t tp0)
    | (refine supBuild0 rfl rfl ?_)
    | (refine supStore (.tmp 3) (.tmp 22) rfl K3.out rfl rfl zero16_length rfl ?_; intro w4 hk hg; replace HB := Lib.hid (below_at HB.out hg (by omega) K3.out.lt); replace K1 := Lib.hid (K1.out.grown hg (by omega)); replace K3 := Lib.hid hk; have hz4 := hg.size; clear hk hg))
  exact bodyPost_ret (v := .tuple #[.int .u64 0, sup su0, .int .i64 k]) (ret_sup rfl _ _ K3.out rfl rfl rfl) rfl ⟨rfl, HB.out⟩
end Go.Proofs.Ytdchcggllcgokaa.Q

namespace Go.Proofs.Ytdchcggllcgokaa.Q
open Go.RowKit Go.Proofs.Ytdchcggllcgokaa.L Go.Proofs.Ytdchcggllcgokaa.U Go.Proofs.Ytdchcggllcgokaa.E Go.Proofs.Ytdchcggllcgokaa.R Go.Proofs.YtdchcggllcgokaaW.PrintWords
set_option linter.unusedVariables false
set_option linter.unusedSimpArgs false
theorem sub14 {W : World} {A : Option Addr} {D : List Int} {c : Nat} (hc : 44 ≤ c) (h : ReadsInt W .u8 A 44 D) : ReadsInt W .u8 (if c = 14 then A else A.map (·.add 14)) 4 ((D.drop 14).take 4) :=
  (h.drop_ 14 (by decide) hc).take_ 4 (by decide)
theorem sub14' {W : World} {A : Option Addr} {D : List Int} {c : Nat} (hc : 44 ≤ c) (h : ReadsInt W .u8 A 44 D) : ReadsInt W .u8 (A.map (·.add 14)) 4 ((D.drop 14).take 4) := by
  have h2 := sub14 hc h
  rw [if_neg (by omega)] at h2
  exact h2
theorem byts_some {b : Nat} {W : World} {A : Option Addr} {c : Nat} {ys : List Int} (h : Byts b W A c ys) (h0 : 0 < ys.length) : ∃ g, A = some ⟨g, 0, none⟩ ∧ b ≤ g := by
  rcases h.2 with ⟨he, h1⟩ | ⟨g, cap, cur, he, hb, _⟩
  · omega
  · injection he with h1 h2 h3
    exact ⟨g, h1, hb⟩
theorem Byts.cellAt {b g : Nat} {W : World} {c : Nat} {ys : List Int} (h : Byts b W (some ⟨g, 0, none⟩) c ys) (i : Nat) (hi : i < ys.length) : W.cell? ⟨g, i, none⟩ = some (.int .u8 (rd ys (i : Int))) := by
  obtain ⟨ax, he, hc⟩ := h.reads.at_ (i : Int) (by omega) (by omega)
  injection he with he
  subst he
  rw [Addr.add_mid] at hc
  simpa using hc
theorem next16 {l z : List Int} (q : Nat) (hq : q < 16) (hl : l.length = 16) (hz : z.length = 16) : (l.take q ++ z.drop q).set q (rd l (q : Int)) = l.take (q + 1) ++ z.drop (q + 1) := by
  apply List.ext_getElem
  · simp [hl, hz]; omega
  · intro i h1 h2
    rw [List.getElem_set]
    have hr : rd l (q : Int) = l[q] := by rw [rd, Int.toNat_natCast, List.getD_eq_getElem?_getD, List.getElem?_eq_getElem (by omega), Option.getD_some]
    by_cases h : q = i
    · subst h
      rw [if_pos rfl, List.getElem_append_left (by rw [List.length_take]; omega), List.getElem_take, hr]
    · rw [if_neg h]
      rcases Nat.lt_or_ge i q with h3 | h3
      · rw [List.getElem_append_left (by rw [List.length_take]; omega), List.getElem_append_left (by rw [List.length_take]; omega), List.getElem_take, List.getElem_take]
      · rw [List.getElem_append_right (by rw [List.length_take]; omega), List.getElem_append_right (by rw [List.length_take]; omega), List.getElem_drop, List.getElem_drop]
        congr 1
        simp only [List.length_take]
        omega
theorem mid16_length {l z : List Int} (q : Nat) (hq : q ≤ 16) (hl : l.length = 16) (hz : z.length = 16) : (l.take q ++ z.drop q).length = 16 := by
  simp [hl, hz]; omega
theorem mid16_end {l z : List Int} (hl : l.length = 16) (hz : z.length = 16) : l.take 16 ++ z.drop 16 = l := by
  rw [List.take_of_length_le (by omega), List.drop_of_length_le (by omega), List.append_nil]
set_option maxRecDepth 100000 in
set_option maxHeartbeats 2000000 in
theorem rGet_1 (xs : List Int) (HX : Hid (xs.length = 64)) (n : Nat) (k : Int) (hk : (k != 0) = true) (PG : Hid (rGetN xs n k)) (w : World) : Calls Try.prog 104 #[blk xs] w fun e w' => e = .returned (.tuple #[.int .u64 0, sup su0, .int .i64 k]) ∧ Below w.heap.size w w' := by
  have HB := Lib.hid (Below.refl w.heap.size w)
  have tok0 : True := trivial
  have tp0 : True := trivial
  go_enter Try.func104, Try.ntmps104
  go_wp2_with (first
    | (go_skip)
    | (refine F.blkBox (.tmp 0) rfl rfl HX.out rfl ?_; intro w1 hk hb1 hz1; replace HB := Lib.hid (below_ext HB.out hb1); have K1 := Lib.hid hk; clear hk hb1)
    | (have _t := tok0; refine supAlloc rfl rfl ?_; intro w2 hk hb2 hz2; replace K1 := Lib.hid (K1.out.below hb2); replace HB := Lib.hid (below_ext HB.out hb2); have K3 := Lib.hid hk; clear hk hb2; have tok1 : True := trivial; clear _t tok0)
    | (refine F.blkLoad (.tmp 1) rfl K1.out rfl rfl ?_)
    | (have _t := tp0; go_at_call 60; refine (PG.out _).mono ?_; rintro e w3 ⟨⟨A1, c1, l1, rfl⟩, hb3⟩; replace K1 := Lib.hid (K1.out.below hb3); replace K3 := Lib.hid (K3.out.below hb3); replace HB := Lib.hid (below_ext HB.out hb3); have hz3 := hb3.size; clear hb3; have tp1 : True := trivial; clear _t tp0)
    | (refine supBuild0 rfl rfl ?_)
    | (refine supStore (.tmp 3) (.tmp 24) rfl K3.out rfl rfl zero16_length rfl ?_; intro w4 hk hg; replace HB := Lib.hid (below_at HB.out hg (by omega) K3.out.lt); replace K1 := Lib.hid (K1.out.grown hg (by omega)); replace K3 := Lib.hid hk; have hz4 := hg.size; clear hk hg))
  exact bodyPost_ret (v := .tuple #[.int .u64 0, sup su0, .int .i64 k]) (ret_sup rfl _ _ K3.out rfl rfl rfl) rfl ⟨rfl, HB.out⟩
end Go.Proofs.Ytdchcggllcgokaa.Q

namespace Go.Proofs.Ytdchcggllcgokaa.Q
open Go.RowKit Go.Proofs.Ytdchcggllcgokaa.L Go.Proofs.Ytdchcggllcgokaa.U Go.Proofs.Ytdchcggllcgokaa.E Go.Proofs.Ytdchcggllcgokaa.R Go.Proofs.YtdchcggllcgokaaW.PrintWords
set_option linter.unusedVariables false
set_option linter.unusedSimpArgs false
def newS (p q : SQ) : SQ := if p.2 ≠ 0 ∧ q.2 ≠ 0 then ((0, su0), 7) else if p.2 ≠ 0 ∨ (q.2 = 0 ∧ p.1.1 < q.1.1) then (q.1, 0) else (p.1, 0)
def slotS (p q : SQ) : Nat := if p.2 = 0 ∧ (q.2 ≠ 0 ∨ q.1.1 ≤ p.1.1) then 1 else 0
/-- which of two counts, and whether none does -/
def wchS (p q : SQ) : Nat × Bool := if p.2 ≠ 0 ∧ q.2 ≠ 0 then (0, true) else if p.2 ≠ 0 ∨ (q.2 = 0 ∧ p.1.1 < q.1.1) then (1, false) else (0, false)
theorem gotS_first0 {xs : List Int} (h : first xs = 0) : gotS xs = ((0, su0), 5) := by
  have hg : gots xs = (0, [], 5) := if_pos (.inl h)
  have h0 : ¬ (gots xs).2.2 = 0 := by rw [hg]; decide
  rw [gotS_err h0, hg]
theorem gotS_zeros : gotS zeros = ((0, su0), 5) := gotS_first0 first_zeros
theorem gotS_lt {xs : List Int} (hl : xs.length = 64) (hw : Wf8 xs) : (gotS xs).1.1 < 18446744073709551616 := by
  have hn := gots_lt hw
  obtain ⟨⟨m, D, e⟩, hg⟩ : ∃ q, gots xs = q := ⟨_, rfl⟩
  rw [hg] at hn
  by_cases h0 : e = 0
  · subst h0
    rw [gotS_ok hg]
    split
    · exact hn
    · exact (by decide : (0 : Nat) < 18446744073709551616)
  · rw [gotS_err (by rw [hg]; exact h0)]
    exact (by decide : (0 : Nat) < 18446744073709551616)
theorem gotS_id {xs : List Int} (hl : xs.length = 64) (hw : Wf8 xs) : (gotS xs).1.2.id < 18446744073709551616 ∧ Wf (gotS xs).1.2.x := by
  obtain ⟨⟨⟨n, y⟩, k⟩, hg⟩ : ∃ q, gotS xs = q := ⟨_, rfl⟩
  by_cases h : k = 0
  · subst h
    have h2 := gotS_back hl hw hg
    rw [hg]
    exact ⟨h2.2.2.2, h2.2.2.1⟩
  · have h2 := gotS_no hg h
    rw [hg, h2]
    exact ⟨(by decide : (0 : Nat) < 18446744073709551616), Wf_ro0⟩
theorem newS_len : ∀ {p q : SQ}, p.1.2.x.st.length = 16 → q.1.2.x.st.length = 16 → (newS p q).1.2.x.st.length = 16
  | ⟨⟨n, y⟩, e⟩, ⟨⟨m, z⟩, k⟩, h1, h2 => by
    rw [newS]
    split
    · exact zero16_length
    · split
      · exact h2
      · exact h1
/-- the sector of a superblock, torn by the next one's: the one, the other, or none -/
theorem gotS_torn {n ev : Nat} {s nx : Su} (h1 : okS n s = true) (hs : Wf s.x) (is : s.id < 18446744073709551616) (h2 : okS ev nx = true) (hx : Wf nx.x) (ix : nx.id < 18446744073709551616) (hne : ev ≠ n) (q : Int) :
    (gotS (torn (sealed n (sbody s)) (sealed ev (sbody nx)) q) = ((n, s), 0) ∧ q < 64) ∨ (gotS (torn (sealed n (sbody s)) (sealed ev (sbody nx)) q) = ((ev, nx), 0) ∧ 0 < q) ∨ (∃ k, k ≠ 0 ∧ gotS (torn (sealed n (sbody s)) (sealed ev (sbody nx)) q) = ((0, su0), k) ∧ 0 < q ∧ q < 64) := by
  have o1 := okS_n h1
  have o2 := okS_n h2
  have lb1 : (sbody s).length ≤ 44 := by rw [sbody_length]; decide
  have lb2 : (sbody nx).length ≤ 44 := by rw [sbody_length]; decide
  have l1 := sealed_length (n := n) lb1
  have l2 := sealed_length (n := ev) lb2
  have key := torn_is (q := q) l1 l2 (sealed_wf _ (sbody_wf s)) (sealed_wf _ (sbody_wf nx)) (first_sealed (by omega)) (last_sealed (by omega) lb1) (first_sealed (by omega)) (last_sealed (by omega) lb2) hne
  have g1 := gotS_put h1 hs is
  have g2 := gotS_put h2 hx ix
  have hse : sealed n (sbody s) ≠ sealed ev (sbody nx) := fun h => by
    rw [h, g2] at g1
    exact hne (congrArg (fun z => z.1.1) g1)
  by_cases a : torn (sealed n (sbody s)) (sealed ev (sbody nx)) q = sealed n (sbody s)
  · left
    refine ⟨by rw [a]; exact g1, Int.not_le.1 fun hq => hse ?_⟩
    rw [← a, torn, show min q.toNat 64 = 64 by omega, List.take_of_length_le (by omega), List.drop_of_length_le (by omega), List.append_nil]
  · by_cases b : torn (sealed n (sbody s)) (sealed ev (sbody nx)) q = sealed ev (sbody nx)
    · right; left
      refine ⟨by rw [b]; exact g2, Int.not_le.1 fun hq => hse ?_⟩
      rw [← b, torn, show min q.toNat 64 = 0 by omega, List.take_zero, List.drop_zero, List.nil_append]
    · right; right
      have c : (gots (torn (sealed n (sbody s)) (sealed ev (sbody nx)) q)).2.2 = 5 := by
        rcases key with h | h | h
        · exact absurd h a
        · exact absurd h b
        · exact h
      refine ⟨5, by decide, by rw [gotS_err (by rw [c]; decide), c], Int.not_le.1 fun hq => a ?_, Int.not_le.1 fun hq => b ?_⟩
      · rw [torn, show min q.toNat 64 = 0 by omega, List.take_zero, List.drop_zero, List.nil_append]
      · rw [torn, show min q.toNat 64 = 64 by omega, List.take_of_length_le (by omega), List.drop_of_length_le (by omega), List.append_nil]
end Go.Proofs.Ytdchcggllcgokaa.Q
