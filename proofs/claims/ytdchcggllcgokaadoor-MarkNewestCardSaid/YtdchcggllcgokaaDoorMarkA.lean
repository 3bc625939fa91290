/-
  Marks: mark.May, ashlarref09.May, slots; what a sealed sector's body tells: plain laws. An element of an array by value, as a step. mark.Put, ashlarref09.body, Put: the walks. Marks are compared: one law. What the row's condition on mark.sizes gives the walks; a world that meets it. ashlarref09.body, Put: the walks; mark.Put and ashlarref09.Put whole. slices.ContainsFunc at a test for bytes that are not 0; mark.Get: the walks. mark.Get: the walks. ashlarref09.Get: the walks. mark.Get, ashlarref09.Get whole; Newest: the walks.
-/
import Derived.Test.YtdchcggllcgokaaDoorSealLaw1
import Derived.Test.YtdchcggllcgokaaDoorSealM
import Derived.Test.YtdchcggllcgokaaDoorNumLaw2
import Derived.Test.YtdchcggllcgokaaDoorFast
import Derived.Test.YtdchcggllcgokaaDoorQuiet
import Derived.Deep.MidRow
import Derived.Test.YtdchcggllcgokaaDoorWEqStruct
import Derived.Test.YtdchcggllcgokaaDoorRows
import Derived.ProofKit
import Derived.LaidMore
import Derived.LaidLaws
import Derived.OpenShut
import Derived.Stop.Joined
namespace Go.Proofs.YtdchcggllcgokaaDoor.K
open Go.RowKit Go.Proofs.YtdchcggllcgokaaDoor.L Go.Proofs.YtdchcggllcgokaaDoor.U Go.Proofs.YtdchcggllcgokaaDoor.R Go.Proofs.YtdchcggllcgokaaDoor.E Go.Proofs.YtdchcggllcgokaaDoorW.PrintWords
set_option linter.unusedVariables false
set_option linter.unusedSimpArgs false

def mayM (i : Nat) (r : Int) (f a : Nat) : Bool := decide (i ≠ 0 ∧ 40 ≤ r ∧ r ≤ 256 ∧ 1 ≤ f ∧ f ≤ 4611686018427387904 ∧ a ≤ 4611686018427387904)
abbrev magg (i : Nat) (r : Int) (f a : Nat) : Value := .agg #[.int .u64 (i : Int), .int .i64 r, .int .u64 (f : Int), .int .u64 (a : Int)]
set_option maxRecDepth 100000 in
set_option maxHeartbeats 1000000 in
theorem May_any (i : Nat) (r : Int) (f a : Nat) (hi : i < 18446744073709551616) (hr : -9223372036854775808 ≤ r ∧ r ≤ 9223372036854775807) (hf : f < 18446744073709551616) (ha : a < 18446744073709551616) (w : World) :
    Calls Tryd.prog 9 #[magg i r f a] w fun e w' => e = .returned (.bool (mayM i r f a)) ∧ Below w.heap.size w w' := by
  obtain ⟨r1, r2⟩ := hr
  rcases (by omega : (i = 0) ∨ (i ≠ 0 ∧ r < 40) ∨ (i ≠ 0 ∧ 40 ≤ r ∧ 256 < r) ∨ (i ≠ 0 ∧ 40 ≤ r ∧ r ≤ 256 ∧ f < 1) ∨ (i ≠ 0 ∧ 40 ≤ r ∧ r ≤ 256 ∧ 1 ≤ f ∧ 4611686018427387904 < f) ∨ (i ≠ 0 ∧ 40 ≤ r ∧ r ≤ 256 ∧ 1 ≤ f ∧ f ≤ 4611686018427387904 ∧ 4611686018427387904 < a) ∨ (i ≠ 0 ∧ 40 ≤ r ∧ r ≤ 256 ∧ 1 ≤ f ∧ f ≤ 4611686018427387904 ∧ a ≤ 4611686018427387904)) with h1 | ⟨h1, h2⟩ | ⟨h1, h2, h3⟩ | ⟨h1, h2, h3, h4⟩ | ⟨h1, h2, h3, h4, h5⟩ | ⟨h1, h2, h3, h4, h5, h6⟩ | ⟨h1, h2, h3, h4, h5, h6⟩
  all_goals
    first
      | subst h1
      | have hi0 : ¬ ((i : Int) = 0) := by omega
    go_enter Tryd.func9, Tryd.ntmps9
    go_wp2
    go_ret
    exact ⟨ret_b (by rw [Bool.eq_iff_iff]; simp [mayM]; try omega), (Below.refl _ _).alloc (Nat.le_refl _) _⟩
set_option maxRecDepth 100000 in
set_option maxHeartbeats 1000000 in
theorem rMay_any (i : Nat) (r : Int) (f a : Nat) (hi : i < 18446744073709551616) (hr : -9223372036854775808 ≤ r ∧ r ≤ 9223372036854775807) (hf : f < 18446744073709551616) (ha : a < 18446744073709551616) (w : World) :
    Calls Tryd.prog 10 #[magg i r f a] w fun e w' => e = .returned (.bool (mayM i r f a)) ∧ Below w.heap.size w w' := by
  obtain ⟨r1, r2⟩ := hr
  rcases (by omega : (i = 0) ∨ (i ≠ 0 ∧ r < 40) ∨ (i ≠ 0 ∧ 40 ≤ r ∧ 256 < r) ∨ (i ≠ 0 ∧ 40 ≤ r ∧ r ≤ 256 ∧ f < 1) ∨ (i ≠ 0 ∧ 40 ≤ r ∧ r ≤ 256 ∧ 1 ≤ f ∧ 4611686018427387904 < f) ∨ (i ≠ 0 ∧ 40 ≤ r ∧ r ≤ 256 ∧ 1 ≤ f ∧ f ≤ 4611686018427387904 ∧ 4611686018427387904 < a) ∨ (i ≠ 0 ∧ 40 ≤ r ∧ r ≤ 256 ∧ 1 ≤ f ∧ f ≤ 4611686018427387904 ∧ a ≤ 4611686018427387904)) with h1 | ⟨h1, h2⟩ | ⟨h1, h2, h3⟩ | ⟨h1, h2, h3, h4⟩ | ⟨h1, h2, h3, h4, h5⟩ | ⟨h1, h2, h3, h4, h5, h6⟩ | ⟨h1, h2, h3, h4, h5, h6⟩
  all_goals
    first
      | subst h1
      | have hi0 : ¬ ((i : Int) = 0) := by omega
    go_enter Tryd.func10, Tryd.ntmps10
    go_wp2
    go_ret
    exact ⟨ret_b (by rw [Bool.eq_iff_iff]; simp [mayM]; try omega), (Below.refl _ _).alloc (Nat.le_refl _) _⟩
theorem Slot_any (n : Nat) (hn : n < 18446744073709551616) (w : World) : Calls Tryd.prog 11 #[.int .u64 (n : Int)] w fun e w' => e = .returned (.int .i64 ((n % 2 : Nat) : Int)) ∧ Below w.heap.size w w' := by
  go_enter Tryd.func11, Tryd.ntmps11
  go_wp2
  go_ret
  exact ⟨ret_i (by omega), Below.refl _ _⟩
theorem rSlot_any (n : Nat) (hn : n < 18446744073709551616) (w : World) : Calls Tryd.prog 12 #[.int .u64 (n : Int)] w fun e w' => e = .returned (.int .i64 ((n % 2 : Nat) : Int)) ∧ Below w.heap.size w w' := by
  go_enter Tryd.func12, Tryd.ntmps12
  go_wp2
  go_ret
  exact ⟨ret_i (by omega), Below.refl _ _⟩
theorem byt_lt (n i : Nat) : byt n i < 256 := Nat.mod_lt _ (by decide)
theorem byt_vle {f : Nat → Nat} (hf : ∀ i, f i < 256) {s i : Nat} (h : i < s) : byt (vle f s) i = f i :=
  vle_inj (fun i => byt_lt _ i) hf s (by rw [vle_byt, Nat.mod_eq_of_lt (vle_lt f hf s)]) i h
/-- bytes that are got are put again -/
theorem put_get {xs : List Int} (hw : Wf8 xs) {a s : Nat} (h : a + s ≤ xs.length) : putb (vle (bat xs a) s) s = (xs.drop a).take s := by
  apply List.ext_getElem
  · rw [putb_length, List.length_take, List.length_drop]; omega
  · intro i h1 h2
    rw [putb_length] at h1
    simp only [putb, List.getElem_map, List.getElem_range, List.getElem_take, List.getElem_drop]
    rw [byt_vle (bat_lt hw a) h1, bat]
    have h3 := rd_byte hw (a + i)
    have h4 : rd xs ((a + i : Nat) : Int) = xs[a + i] := by rw [rd, Int.toNat_natCast, List.getD_eq_getElem?_getD, List.getElem?_eq_getElem (by omega), Option.getD_some]
    rw [← h4]; omega
/-- what is got sealed is the sealed sector of what it tells -/
theorem reseal {xs D : List Int} {n : Nat} (hl : xs.length = 64) (hw : Wf8 xs) (h : gots xs = (n, D, 0)) : n ≠ 0 ∧ D = inner xs ∧ sealed n D = xs := by
  unfold gots at h
  split at h
  · exact absurd (congrArg (fun z => z.2.2) h) (by simp)
  · rename_i h1
    split at h
    · exact absurd (congrArg (fun z => z.2.2) h) (by simp)
    · rename_i h2
      have e1 : first xs = n := congrArg (fun z => z.1) h
      have e2 : inner xs = D := congrArg (fun z => z.2.1) h
      have h3 : first xs = last xs := by
        by_cases h4 : first xs = last xs
        · exact h4
        · exact absurd (.inr h4) h1
      have h5 : crcs (xs.take 52) = told xs := by
        by_cases h6 : crcs (xs.take 52) = told xs
        · exact h6
        · exact absurd h6 h2
      have hD : D.length = 44 := by rw [← e2]; exact inner_length hl
      have p1 : putb n 8 = xs.take 8 := by
        have h7 := put_get hw (a := 0) (s := 8) (by omega)
        rw [← e1, first, h7, List.drop_zero]
      have p2 : putb n 8 = xs.drop 56 := by
        have h7 := put_get hw (a := 56) (s := 8) (by omega)
        rw [← e1, h3, last, h7, List.take_of_length_le (by rw [List.length_drop]; omega)]
      have p3 : putb (told xs) 4 = (xs.drop 52).take 4 := put_get hw (a := 52) (s := 4) (by omega)
      have t52 : xs.take 52 = xs.take 8 ++ (xs.drop 8).take 44 := (List.take_add (i := 8) (j := 44) (l := xs)).symm ▸ rfl
      have f1 : front n D = xs.take 52 := by
        rw [front, hD, p1, t52, ← e2, inner]; simp
      refine ⟨fun h0 => h1 (.inl (by rw [e1, h0])), e2.symm, ?_⟩
      rw [sealed, f1, h5, p3, p2]
      have d56 : xs.drop 56 = (xs.drop 52).drop 4 := by rw [List.drop_drop]
      rw [d56, List.take_append_drop, List.take_append_drop]
def mbody (i r f a : Nat) : List Int := putb i 8 ++ putb r 2 ++ putb f 8 ++ putb a 8
theorem mbody_length (i r f a : Nat) : (mbody i r f a).length = 26 := by simp [mbody, putb_length]
theorem mbody_wf (i r f a : Nat) : Wf8 (mbody i r f a) := wf_append (wf_append (wf_append (putb_wf _ _) (putb_wf _ _)) (putb_wf _ _)) (putb_wf _ _)
def okM (n i : Nat) (r : Int) (f a : Nat) : Bool := decide (1 ≤ n ∧ n ≤ 4611686018427387904) && mayM i r f a
theorem okM_ok {n i : Nat} {r : Int} {f a : Nat} (h : okM n i r f a = true) : 1 ≤ n ∧ n ≤ 4611686018427387904 ∧ i ≠ 0 ∧ 40 ≤ r ∧ r ≤ 256 ∧ 1 ≤ f ∧ f ≤ 4611686018427387904 ∧ a ≤ 4611686018427387904 := by
  simp only [okM, mayM, Bool.and_eq_true, decide_eq_true_eq] at h
  exact ⟨h.1.1, h.1.2, h.2.1, h.2.2.1, h.2.2.2.1, h.2.2.2.2.1, h.2.2.2.2.2.1, h.2.2.2.2.2.2⟩
def marks (n i : Nat) (r : Int) (f a : Nat) : List Int × Int := if okM n i r f a = true then (sealed n (mbody i r.toNat f a), 0) else (zeros, 2)
theorem mark_ok {n i r f a : Nat} (h : okM n i r f a = true) : marks n i r f a = (sealed n (mbody i r f a), 0) := by rw [marks, if_pos h, Int.toNat_natCast]
theorem mark_no {n i : Nat} {r : Int} {f a : Nat} (h : okM n i r f a = false) : marks n i r f a = (zeros, 2) := by rw [marks, if_neg (by rw [h]; exact Bool.false_ne_true)]
theorem marks_length (n i : Nat) (r : Int) (f a : Nat) : (marks n i r f a).1.length = 64 := by
  rw [marks]; split
  · exact sealed_length (by rw [mbody_length]; omega)
  · exact zeros_length
def gI (D : List Int) : Nat := vle (bat D 0) 8
def gR (D : List Int) : Nat := vle (bat D 8) 2
def gF (D : List Int) : Nat := vle (bat D 10) 8
def gA (D : List Int) : Nat := vle (bat D 18) 8
theorem gI_lt {D : List Int} (hw : Wf8 D) : gI D < 18446744073709551616 := vle_lt _ (bat_lt hw 0) 8
theorem gR_lt {D : List Int} (hw : Wf8 D) : gR D < 65536 := vle_lt _ (bat_lt hw 8) 2
theorem gF_lt {D : List Int} (hw : Wf8 D) : gF D < 18446744073709551616 := vle_lt _ (bat_lt hw 10) 8
theorem gA_lt {D : List Int} (hw : Wf8 D) : gA D < 18446744073709551616 := vle_lt _ (bat_lt hw 18) 8
theorem mbody_take {D : List Int} (hw : Wf8 D) (hl : D.length = 44) : mbody (gI D) (gR D) (gF D) (gA D) = D.take 26 := by
  rw [mbody, gI, gR, gF, gA, put_get hw (by omega), put_get hw (by omega), put_get hw (by omega), put_get hw (by omega), List.drop_zero]
  have h1 : D.take 10 = D.take 8 ++ (D.drop 8).take 2 := (List.take_add (i := 8) (j := 2) (l := D)).symm ▸ rfl
  have h2 : D.take 18 = D.take 10 ++ (D.drop 10).take 8 := (List.take_add (i := 10) (j := 8) (l := D)).symm ▸ rfl
  have h3 : D.take 26 = D.take 18 ++ (D.drop 18).take 8 := (List.take_add (i := 18) (j := 8) (l := D)).symm ▸ rfl
  rw [h3, h2, h1]
theorem same_mark {xs D : List Int} {n : Nat} (hl : xs.length = 64) (hw : Wf8 xs) (h : gots xs = (n, D, 0)) : sealed n (mbody (gI D) (gR D) (gF D) (gA D)) = xs ↔ D.drop 26 = Z 18 := by
  obtain ⟨h0, hD, hs⟩ := reseal hl hw h
  have hDl : D.length = 44 := by rw [hD]; exact inner_length hl
  have hDw : Wf8 D := by rw [hD]; exact inner_wf hw
  rw [mbody_take hDw hDl]
  have ht : (D.take 26).length = 26 := by rw [List.length_take]; omega
  constructor
  · intro he
    have h1 : inner (sealed n (D.take 26)) = D.take 26 ++ Z (44 - (D.take 26).length) := inner_sealed (by rw [ht]; decide)
    rw [he, ← hD, ht] at h1
    have h2 : D.drop 26 = (D.take 26 ++ Z 18).drop 26 := by rw [← h1]
    rw [h2, List.drop_left' ht]
  · intro he
    have h1 : D = D.take 26 ++ Z 18 := by rw [← he, List.take_append_drop]
    have h2 : front n (D.take 26) = front n D := by
      rw [front, front, ht, hDl]
      conv => rhs; rw [h1]
      simp [Z]
    rw [← hs, sealed, sealed, h2]
abbrev MQ := (Nat × Nat × Nat × Nat × Nat) × Int
def gotM (xs : List Int) : MQ :=
  if (gots xs).2.2 ≠ 0 then ((0, 0, 0, 0, 0), (gots xs).2.2)
  else if okM (gots xs).1 (gI (gots xs).2.1) (gR (gots xs).2.1) (gF (gots xs).2.1) (gA (gots xs).2.1) = true ∧ (gots xs).2.1.drop 26 = Z 18 then (((gots xs).1, gI (gots xs).2.1, gR (gots xs).2.1, gF (gots xs).2.1, gA (gots xs).2.1), 0)
  else ((0, 0, 0, 0, 0), 5)
theorem gots_lt {xs : List Int} (hw : Wf8 xs) : (gots xs).1 < 18446744073709551616 := by
  unfold gots
  split
  · exact Nat.zero_lt_succ _
  · split
    · exact Nat.zero_lt_succ _
    · exact vle_lt _ (bat_lt hw 0) 8
theorem gotM_err {xs : List Int} (h0 : ¬ (gots xs).2.2 = 0) : gotM xs = ((0, 0, 0, 0, 0), (gots xs).2.2) := by rw [gotM, if_pos h0]
theorem gotM_ok {xs D : List Int} {n : Nat} (hg : gots xs = (n, D, 0)) : gotM xs = if okM n (gI D) (gR D) (gF D) (gA D) = true ∧ D.drop 26 = Z 18 then ((n, gI D, gR D, gF D, gA D), 0) else ((0, 0, 0, 0, 0), 5) := by
  rw [gotM, hg]
  exact if_neg (fun h => h rfl)
theorem gotM_back {xs : List Int} (hl : xs.length = 64) (hw : Wf8 xs) {n i r f a : Nat} (h : gotM xs = ((n, i, r, f, a), 0)) : okM n i r f a = true ∧ sealed n (mbody i r f a) = xs := by
  obtain ⟨⟨k, D, e⟩, hg⟩ : ∃ q, gots xs = q := ⟨_, rfl⟩
  by_cases h0 : e = 0
  · subst h0
    have hsn := same_mark hl hw hg
    rw [gotM_ok hg] at h
    split at h
    · rename_i hc
      have e1 : k = n := congrArg (fun z => z.1.1) h
      have e2 : gI D = i := congrArg (fun z => z.1.2.1) h
      have e3 : gR D = r := congrArg (fun z => z.1.2.2.1) h
      have e4 : gF D = f := congrArg (fun z => z.1.2.2.2.1) h
      have e5 : gA D = a := congrArg (fun z => z.1.2.2.2.2) h
      subst e1 e2 e3 e4 e5
      exact ⟨hc.1, hsn.2 hc.2⟩
    · exact absurd (congrArg (fun z => z.2) h) (by simp)
  · rw [gotM_err (by rw [hg]; exact h0), hg] at h
    exact absurd (congrArg (fun z => z.2) h) h0
theorem gotM_no {xs : List Int} {q : Nat × Nat × Nat × Nat × Nat} {k : Int} (h : gotM xs = (q, k)) (hk : k ≠ 0) : q = (0, 0, 0, 0, 0) := by
  obtain ⟨⟨n, D, j⟩, hg⟩ : ∃ q, gots xs = q := ⟨_, rfl⟩
  by_cases h0 : j = 0
  · subst h0
    rw [gotM_ok hg] at h
    split at h
    · exact absurd (congrArg (fun z => z.2) h).symm hk
    · exact (congrArg (fun z => z.1) h).symm
  · rw [gotM_err (by rw [hg]; exact h0)] at h
    exact (congrArg (fun z => z.1) h).symm
def pad (i r f a : Nat) : List Int := mbody i r f a ++ Z 18
theorem pad_I {i r f a : Nat} (h : i < 18446744073709551616) : gI (pad i r f a) = i := by
  have h1 := get_put i 8 (by omega) [] (putb r 2 ++ (putb f 8 ++ (putb a 8 ++ Z 18)))
  rw [gI, pad, mbody, List.append_assoc, List.append_assoc, List.append_assoc]
  simpa using h1
theorem pad_R {i r f a : Nat} (h : r < 65536) : gR (pad i r f a) = r := by
  have h1 := get_put r 2 (by omega) (putb i 8) (putb f 8 ++ (putb a 8 ++ Z 18))
  rw [putb_length] at h1
  rw [gR, pad, mbody, List.append_assoc, List.append_assoc]
  exact h1
theorem pad_F {i r f a : Nat} (h : f < 18446744073709551616) : gF (pad i r f a) = f := by
  have h1 := get_put f 8 (by omega) (putb i 8 ++ putb r 2) (putb a 8 ++ Z 18)
  rw [List.length_append, putb_length, putb_length] at h1
  rw [gF, pad, mbody, List.append_assoc (putb i 8 ++ putb r 2 ++ putb f 8)]
  exact h1
theorem pad_A {i r f a : Nat} (h : a < 18446744073709551616) : gA (pad i r f a) = a := by
  have h1 := get_put a 8 (by omega) (putb i 8 ++ putb r 2 ++ putb f 8) (Z 18)
  rw [List.length_append, List.length_append, putb_length, putb_length, putb_length] at h1
  rw [gA, pad, mbody]
  exact h1
theorem pad_tail (i r f a : Nat) : (pad i r f a).drop 26 = Z 18 := by
  rw [pad]; exact List.drop_left' (mbody_length i r f a)
theorem gotM_put {n i r f a : Nat} (hm : okM n i r f a = true) (hi : i < 18446744073709551616) (hf : f < 18446744073709551616) (ha : a < 18446744073709551616) : gotM (sealed n (mbody i r f a)) = ((n, i, r, f, a), 0) := by
  have ho := okM_ok hm
  have hg := gots_sealed (n := n) (ys := mbody i r f a) (by omega) (by omega) (by rw [mbody_length]; omega)
  rw [mbody_length] at hg
  have hg' : gots (sealed n (mbody i r f a)) = (n, pad i r f a, 0) := hg
  rw [gotM_ok hg', pad_I hi, pad_R (by omega), pad_F hf, pad_A ha, if_pos ⟨hm, pad_tail i r f a⟩]
/-- the variable mark.sizes, as laid -/
def Siz (W : World) : Prop := W.rangeAt 0 0 [.int .i64 8, .int .i64 2, .int .i64 8, .int .i64 8] ∧ 0 < W.heap.size
theorem Siz.below {W W1 : World} (h : Siz W) (hb : Below W.heap.size W W1) : Siz W1 :=
  ⟨fun j v hv => by rw [hb.cell (p := ⟨0, 0 + j, none⟩) h.2]; exact h.1 j v hv, Nat.lt_of_lt_of_le h.2 hb.size⟩
theorem Siz.grown {W W1 : World} {g : Nat} (h : Siz W) (hg : W.grownBy W1 (some g)) (hne : 0 ≠ g) : Siz W1 :=
  ⟨fun j v hv => by
    have h1 := h.1 j v hv
    obtain ⟨_, _, _, _, h5⟩ := hg
    have h6 := h5 0 h.2 (fun e => hne (by injection e))
    simp only [World.cell?, h6] at h1 ⊢
    exact h1, Nat.lt_of_lt_of_le h.2 hg.size⟩
theorem Siz.later {W : World} (h : Siz W) (x : Later W) : Siz x.w := h.below x.b
end Go.Proofs.YtdchcggllcgokaaDoor.K

namespace Go.Proofs.YtdchcggllcgokaaDoor.F
open Go.RowKit Go.Proofs.YtdchcggllcgokaaDoor.L Go.Proofs.YtdchcggllcgokaaDoor.R Go.Proofs.YtdchcggllcgokaaDoorW.PrintWords
set_option linter.unusedVariables false
section
variable {P : Program} {ops : Array Oper} {rest : List Oper} {op : Oper} {a : Act} {w : World} {Q : Exit → Act → World → Prop}
theorem run_aggIndex {ty e : TypeId} {cs : Array Value} {k : IntKind} {i n : Nat} (hu : P.underlying ty = some (.array n e)) (hi : i < n) (hag : ∀ w : World, (isAgg e).run P w = .ok false w) (hsz : ∀ w : World, (sizeOf e).run P w = .ok 1 w) {v : Value} (hv : cs[i]? = some v) (w : World) :
    (Instr.index ty (.agg cs) (.int k (i : Int))).run P w = .ok v w := by
  simp [Instr.index, asIntOf, run_underlying hu, hi, hsz, part, hag, hv]
theorem aggIndex (ty : TypeId) (x y : Operand) (ho : op.op = .index ty x y) {cs : Array Value} {i n : Nat} {e : TypeId} {k : IntKind} (hx : a.eval x = .agg cs) (hy : a.eval y = .int k (i : Int)) (hu : P.underlying ty = some (.array n e)) (hi : i < n)
    (hag : ∀ w : World, (isAgg e).run P w = .ok false w) (hsz : ∀ w : World, (sizeOf e).run P w = .ok 1 w) {v : Value} (hv : cs[i]? = some v) (hw : Region.wanted op (yielded ops a.tmps) = true)
    (h : wpList P ops Q rest (a.put op.dst v) w) : wpList P ops Q (op :: rest) a w := by
  refine wanted_step hw fun K hK => ?_
  unfold Oper.wp execOp
  simp only [ho, hx, hy, run_aggIndex hu hi hag hsz hv, Sem.run_bind, Result.andThen_ok, Sem.run_pure]
  exact hK _ _ h
end
end Go.Proofs.YtdchcggllcgokaaDoor.F

namespace Go.Proofs.YtdchcggllcgokaaDoor.K
open Go.RowKit Go.Proofs.YtdchcggllcgokaaDoor.L Go.Proofs.YtdchcggllcgokaaDoor.U Go.Proofs.YtdchcggllcgokaaDoor.R Go.Proofs.YtdchcggllcgokaaDoor.E Go.Proofs.YtdchcggllcgokaaDoorW.PrintWords
set_option linter.unusedVariables false
set_option linter.unusedSimpArgs false
theorem zero_mark (w : World) : (zeroValue 24).run Tryd.prog w = .ok (.agg #[.int .u64 0, .int .i64 0, .int .u64 0, .int .u64 0]) w := by kernel_rfl
theorem info_mark : (Tryd.prog.info? 24).map (·.size) = some 4 := by kernel_rfl
theorem ones_mark (i r f a : Int) : (#[Value.int .u64 i, .int .i64 r, .int .u64 f, .int .u64 a] : Array Value).all (·.oneCell') = true := by
  rw [Array.all_eq_true_iff_forall_mem]
  intro v hv
  simp at hv
  rcases hv with rfl | rfl | rfl | rfl <;> rfl
theorem info_u64 : (Tryd.prog.info? 22).map (·.size) = some 1 := by kernel_rfl
theorem info_int : (Tryd.prog.info? 3).map (·.size) = some 1 := by kernel_rfl
theorem agg_u64 (w : World) : (isAgg 22).run Tryd.prog w = .ok false w := by kernel_rfl
theorem agg_int (w : World) : (isAgg 3).run Tryd.prog w = .ok false w := by kernel_rfl
theorem size_u64 (w : World) : (sizeOf 22).run Tryd.prog w = .ok 1 w := by kernel_rfl
theorem size_int (w : World) : (sizeOf 3).run Tryd.prog w = .ok 1 w := by kernel_rfl
theorem Siz.cell {W : World} (h : Siz W) {j : Nat} {v : Value} (hv : [Value.int .i64 8, .int .i64 2, .int .i64 8, .int .i64 8][j]? = some v) : W.cell? ⟨0, j, none⟩ = some v := by
  have h2 := h.1 j v hv
  rwa [Nat.zero_add] at h2
set_option maxRecDepth 100000 in
set_option maxHeartbeats 2000000 in
theorem Put_n0 (n i : Nat) (r : Int) (f a : Nat) (hn : n < 18446744073709551616) (h1 : n < 1)
     (w : World) :
    Calls Tryd.prog 7 #[.int .u64 (n : Int), magg i r f a] w fun e w' => e = .returned (.tuple #[blk zeros, .int .i64 2]) ∧ Below w.heap.size w w' := by
  have HB := Lib.hid (Below.refl w.heap.size w)
  have g1 : decide (n < 1) = true := by simp; omega
  have g2 : decide ((n : Int) < 1) = true := by simp; omega
  have tok0 : True := trivial
  have tp0 : True := trivial
  go_enter Tryd.func7, Tryd.ntmps7
  go_wp2_with (first
    | (go_skip)
    | (refine F.rowBox 24 (.tmp 1) rfl rfl rfl ?_; intro w1 hk hb1 hz1; replace HB := Lib.hid (below_ext HB.out hb1); have K3 := Lib.hid hk; clear hk hb1)
    | (have _t := tok0; refine F.blkAlloc rfl rfl ?_; intro w2 hk hb2 hz2; replace K3 := Lib.hid (K3.out.below hb2); replace HB := Lib.hid (below_ext HB.out hb2); have K4 := Lib.hid hk; have tok1 : True := trivial; clear hk hb2 _t tok0)
    | (refine F.rowLoad 24 (.tmp 3) rfl K3.out rfl Tryd.underlying24 rfl info_mark rfl ?_)
    | (have _t := tp0; go_at_call 9; refine (trivial).mono ?_; rintro e w3 ⟨rfl, hb3⟩; replace K3 := Lib.hid (K3.out.below hb3); replace K4 := Lib.hid (K4.out.below hb3); replace HB := Lib.hid (below_ext HB.out hb3); have hz3 := hb3.size; clear hb3; have tp1 : True := trivial; clear _t tp0)
    | (refine F.blkBuild rfl rfl ?_)
    | (refine F.blkStore (.tmp 4) (.tmp 22) rfl K4.out rfl rfl zeros_length rfl ?_; intro w4 hk hg; replace HB := Lib.hid (below_at HB.out hg (by omega) K4.out.lt); replace K3 := Lib.hid (K3.out.grown hg (by omega)); replace K4 := Lib.hid hk; have hz4 := hg.size; clear hk hg))
  exact bodyPost_ret (v := .tuple #[blk zeros, .int .i64 2]) (ret_blk rfl _ _ K4.out rfl rfl) rfl ⟨rfl, HB.out⟩
set_option maxRecDepth 100000 in
set_option maxHeartbeats 2000000 in
theorem Put_n1 (n i : Nat) (r : Int) (f a : Nat) (hn : n < 18446744073709551616) (h1 : 1 ≤ n) (h2 : 4611686018427387904 < n)
     (w : World) :
    Calls Tryd.prog 7 #[.int .u64 (n : Int), magg i r f a] w fun e w' => e = .returned (.tuple #[blk zeros, .int .i64 2]) ∧ Below w.heap.size w w' := by
  have HB := Lib.hid (Below.refl w.heap.size w)
  have g1 : decide (n < 1) = false := by simp; omega
  have g2 : decide ((n : Int) < 1) = false := by simp; omega
  have g3 : decide (4611686018427387904 < n) = true := by simp; omega
  have g4 : decide ((4611686018427387904 : Int) < (n : Int)) = true := by simp; omega
  have tok0 : True := trivial
  have tp0 : True := trivial
  go_enter Tryd.func7, Tryd.ntmps7
  go_wp2_with (first
    | (go_skip)
    | (refine F.rowBox 24 (.tmp 1) rfl rfl rfl ?_; intro w1 hk hb1 hz1; replace HB := Lib.hid (below_ext HB.out hb1); have K3 := Lib.hid hk; clear hk hb1)
    | (have _t := tok0; refine F.blkAlloc rfl rfl ?_; intro w2 hk hb2 hz2; replace K3 := Lib.hid (K3.out.below hb2); replace HB := Lib.hid (below_ext HB.out hb2); have K4 := Lib.hid hk; have tok1 : True := trivial; clear hk hb2 _t tok0)
    | (refine F.rowLoad 24 (.tmp 3) rfl K3.out rfl Tryd.underlying24 rfl info_mark rfl ?_)
    | (have _t := tp0; go_at_call 9; refine (trivial).mono ?_; rintro e w3 ⟨rfl, hb3⟩; replace K3 := Lib.hid (K3.out.below hb3); replace K4 := Lib.hid (K4.out.below hb3); replace HB := Lib.hid (below_ext HB.out hb3); have hz3 := hb3.size; clear hb3; have tp1 : True := trivial; clear _t tp0)
    | (refine F.blkBuild rfl rfl ?_)
    | (refine F.blkStore (.tmp 4) (.tmp 22) rfl K4.out rfl rfl zeros_length rfl ?_; intro w4 hk hg; replace HB := Lib.hid (below_at HB.out hg (by omega) K4.out.lt); replace K3 := Lib.hid (K3.out.grown hg (by omega)); replace K4 := Lib.hid hk; have hz4 := hg.size; clear hk hg))
  exact bodyPost_ret (v := .tuple #[blk zeros, .int .i64 2]) (ret_blk rfl _ _ K4.out rfl rfl) rfl ⟨rfl, HB.out⟩
set_option maxRecDepth 100000 in
set_option maxHeartbeats 2000000 in
theorem Put_n2 (n i : Nat) (r : Int) (f a : Nat) (hn : n < 18446744073709551616) (h1 : 1 ≤ n) (h2 : n ≤ 4611686018427387904)
    (PM : Hid (∀ w : World, Calls Tryd.prog 9 #[magg i r f a] w fun e w' => e = .returned (.bool false) ∧ Below w.heap.size w w')) (w : World) :
    Calls Tryd.prog 7 #[.int .u64 (n : Int), magg i r f a] w fun e w' => e = .returned (.tuple #[blk zeros, .int .i64 2]) ∧ Below w.heap.size w w' := by
  have HB := Lib.hid (Below.refl w.heap.size w)
  have g1 : decide (n < 1) = false := by simp; omega
  have g2 : decide ((n : Int) < 1) = false := by simp; omega
  have g3 : decide (4611686018427387904 < n) = false := by simp; omega
  have g4 : decide ((4611686018427387904 : Int) < (n : Int)) = false := by simp; omega
  have tok0 : True := trivial
  have tp0 : True := trivial
  go_enter Tryd.func7, Tryd.ntmps7
  go_wp2_with (first
    | (go_skip)
    | (refine F.rowBox 24 (.tmp 1) rfl rfl rfl ?_; intro w1 hk hb1 hz1; replace HB := Lib.hid (below_ext HB.out hb1); have K3 := Lib.hid hk; clear hk hb1)
    | (have _t := tok0; refine F.blkAlloc rfl rfl ?_; intro w2 hk hb2 hz2; replace K3 := Lib.hid (K3.out.below hb2); replace HB := Lib.hid (below_ext HB.out hb2); have K4 := Lib.hid hk; have tok1 : True := trivial; clear hk hb2 _t tok0)
    | (refine F.rowLoad 24 (.tmp 3) rfl K3.out rfl Tryd.underlying24 rfl info_mark rfl ?_)
    | (have _t := tp0; go_at_call 9; refine (PM.out _).mono ?_; rintro e w3 ⟨rfl, hb3⟩; replace K3 := Lib.hid (K3.out.below hb3); replace K4 := Lib.hid (K4.out.below hb3); replace HB := Lib.hid (below_ext HB.out hb3); have hz3 := hb3.size; clear hb3; have tp1 : True := trivial; clear _t tp0)
    | (refine F.blkBuild rfl rfl ?_)
    | (refine F.blkStore (.tmp 4) (.tmp 22) rfl K4.out rfl rfl zeros_length rfl ?_; intro w4 hk hg; replace HB := Lib.hid (below_at HB.out hg (by omega) K4.out.lt); replace K3 := Lib.hid (K3.out.grown hg (by omega)); replace K4 := Lib.hid hk; have hz4 := hg.size; clear hk hg))
  exact bodyPost_ret (v := .tuple #[blk zeros, .int .i64 2]) (ret_blk rfl _ _ K4.out rfl rfl) rfl ⟨rfl, HB.out⟩
set_option maxRecDepth 100000 in
set_option maxHeartbeats 2000000 in
theorem rPut_n0 (n i : Nat) (r : Int) (f a : Nat) (hn : n < 18446744073709551616) (h1 : n < 1)
     (w : World) :
    Calls Tryd.prog 8 #[.int .u64 (n : Int), magg i r f a] w fun e w' => e = .returned (.tuple #[blk zeros, .int .i64 2]) ∧ Below w.heap.size w w' := by
  have HB := Lib.hid (Below.refl w.heap.size w)
  have g1 : decide (n < 1) = true := by simp; omega
  have g2 : decide ((n : Int) < 1) = true := by simp; omega
  have tok0 : True := trivial
  have tp0 : True := trivial
  go_enter Tryd.func8, Tryd.ntmps8
  go_wp2_with (first
    | (go_skip)
    | (refine F.rowBox 24 (.tmp 1) rfl rfl rfl ?_; intro w1 hk hb1 hz1; replace HB := Lib.hid (below_ext HB.out hb1); have K3 := Lib.hid hk; clear hk hb1)
    | (have _t := tok0; refine F.blkAlloc rfl rfl ?_; intro w2 hk hb2 hz2; replace K3 := Lib.hid (K3.out.below hb2); replace HB := Lib.hid (below_ext HB.out hb2); have K4 := Lib.hid hk; have tok1 : True := trivial; clear hk hb2 _t tok0)
    | (refine F.rowLoad 24 (.tmp 3) rfl K3.out rfl Tryd.underlying24 rfl info_mark rfl ?_)
    | (have _t := tp0; go_at_call 10; refine (trivial).mono ?_; rintro e w3 ⟨rfl, hb3⟩; replace K3 := Lib.hid (K3.out.below hb3); replace K4 := Lib.hid (K4.out.below hb3); replace HB := Lib.hid (below_ext HB.out hb3); have hz3 := hb3.size; clear hb3; have tp1 : True := trivial; clear _t tp0)
    | (refine F.blkBuild rfl rfl ?_)
    | (refine F.blkStore (.tmp 4) (.tmp 17) rfl K4.out rfl rfl zeros_length rfl ?_; intro w4 hk hg; replace HB := Lib.hid (below_at HB.out hg (by omega) K4.out.lt); replace K3 := Lib.hid (K3.out.grown hg (by omega)); replace K4 := Lib.hid hk; have hz4 := hg.size; clear hk hg))
  exact bodyPost_ret (v := .tuple #[blk zeros, .int .i64 2]) (ret_blk rfl _ _ K4.out rfl rfl) rfl ⟨rfl, HB.out⟩
set_option maxRecDepth 100000 in
set_option maxHeartbeats 2000000 in
theorem rPut_n1 (n i : Nat) (r : Int) (f a : Nat) (hn : n < 18446744073709551616) (h1 : 1 ≤ n) (h2 : 4611686018427387904 < n)
     (w : World) :
    Calls Tryd.prog 8 #[.int .u64 (n : Int), magg i r f a] w fun e w' => e = .returned (.tuple #[blk zeros, .int .i64 2]) ∧ Below w.heap.size w w' := by
  have HB := Lib.hid (Below.refl w.heap.size w)
  have g1 : decide (n < 1) = false := by simp; omega
  have g2 : decide ((n : Int) < 1) = false := by simp; omega
  have g3 : decide (4611686018427387904 < n) = true := by simp; omega
  have g4 : decide ((4611686018427387904 : Int) < (n : Int)) = true := by simp; omega
  have tok0 : True := trivial
  have tp0 : True := trivial
  go_enter Tryd.func8, Tryd.ntmps8
  go_wp2_with (first
    | (go_skip)
    | (refine F.rowBox 24 (.tmp 1) rfl rfl rfl ?_; intro w1 hk hb1 hz1; replace HB := Lib.hid (below_ext HB.out hb1); have K3 := Lib.hid hk; clear hk hb1)
    | (have _t := tok0; refine F.blkAlloc rfl rfl ?_; intro w2 hk hb2 hz2; replace K3 := Lib.hid (K3.out.below hb2); replace HB := Lib.hid (below_ext HB.out hb2); have K4 := Lib.hid hk; have tok1 : True := trivial; clear hk hb2 _t tok0)
    | (refine F.rowLoad 24 (.tmp 3) rfl K3.out rfl Tryd.underlying24 rfl info_mark rfl ?_)
    | (have _t := tp0; go_at_call 10; refine (trivial).mono ?_; rintro e w3 ⟨rfl, hb3⟩; replace K3 := Lib.hid (K3.out.below hb3); replace K4 := Lib.hid (K4.out.below hb3); replace HB := Lib.hid (below_ext HB.out hb3); have hz3 := hb3.size; clear hb3; have tp1 : True := trivial; clear _t tp0)
    | (refine F.blkBuild rfl rfl ?_)
    | (refine F.blkStore (.tmp 4) (.tmp 17) rfl K4.out rfl rfl zeros_length rfl ?_; intro w4 hk hg; replace HB := Lib.hid (below_at HB.out hg (by omega) K4.out.lt); replace K3 := Lib.hid (K3.out.grown hg (by omega)); replace K4 := Lib.hid hk; have hz4 := hg.size; clear hk hg))
  exact bodyPost_ret (v := .tuple #[blk zeros, .int .i64 2]) (ret_blk rfl _ _ K4.out rfl rfl) rfl ⟨rfl, HB.out⟩
set_option maxRecDepth 100000 in
set_option maxHeartbeats 2000000 in
theorem rPut_n2 (n i : Nat) (r : Int) (f a : Nat) (hn : n < 18446744073709551616) (h1 : 1 ≤ n) (h2 : n ≤ 4611686018427387904)
    (PM : Hid (∀ w : World, Calls Tryd.prog 10 #[magg i r f a] w fun e w' => e = .returned (.bool false) ∧ Below w.heap.size w w')) (w : World) :
    Calls Tryd.prog 8 #[.int .u64 (n : Int), magg i r f a] w fun e w' => e = .returned (.tuple #[blk zeros, .int .i64 2]) ∧ Below w.heap.size w w' := by
  have HB := Lib.hid (Below.refl w.heap.size w)
  have g1 : decide (n < 1) = false := by simp; omega
  have g2 : decide ((n : Int) < 1) = false := by simp; omega
  have g3 : decide (4611686018427387904 < n) = false := by simp; omega
  have g4 : decide ((4611686018427387904 : Int) < (n : Int)) = false := by simp; omega
  have tok0 : True := trivial
  have tp0 : True := trivial
  go_enter Tryd.func8, Tryd.ntmps8
  go_wp2_with (first
    | (go_skip)
    | (refine F.rowBox 24 (.tmp 1) rfl rfl rfl ?_; intro w1 hk hb1 hz1; replace HB := Lib.hid (below_ext HB.out hb1); have K3 := Lib.hid hk; clear hk hb1)
    | (have _t := tok0; refine F.blkAlloc rfl rfl ?_; intro w2 hk hb2 hz2; replace K3 := Lib.hid (K3.out.below hb2); replace HB := Lib.hid (below_ext HB.out hb2); have K4 := Lib.hid hk; have tok1 : True := trivial; clear hk hb2 _t tok0)
    | (refine F.rowLoad 24 (.tmp 3) rfl K3.out rfl Tryd.underlying24 rfl info_mark rfl ?_)
    | (have _t := tp0; go_at_call 10; refine (PM.out _).mono ?_; rintro e w3 ⟨rfl, hb3⟩; replace K3 := Lib.hid (K3.out.below hb3); replace K4 := Lib.hid (K4.out.below hb3); replace HB := Lib.hid (below_ext HB.out hb3); have hz3 := hb3.size; clear hb3; have tp1 : True := trivial; clear _t tp0)
    | (refine F.blkBuild rfl rfl ?_)
    | (refine F.blkStore (.tmp 4) (.tmp 17) rfl K4.out rfl rfl zeros_length rfl ?_; intro w4 hk hg; replace HB := Lib.hid (below_at HB.out hg (by omega) K4.out.lt); replace K3 := Lib.hid (K3.out.grown hg (by omega)); replace K4 := Lib.hid hk; have hz4 := hg.size; clear hk hg))
  exact bodyPost_ret (v := .tuple #[blk zeros, .int .i64 2]) (ret_blk rfl _ _ K4.out rfl rfl) rfl ⟨rfl, HB.out⟩
def Lq (L0 L1 L2 L3 L4 : List Int) (q : Nat) : List Int := match q with | 0 => L0 | 1 => L1 | 2 => L2 | 3 => L3 | _ => L4
set_option maxRecDepth 100000 in
set_option maxHeartbeats 2000000 in
theorem Put_y (n i r f a : Nat) (h1 : 1 ≤ n) (h2 : n ≤ 4611686018427387904) (hi : i < 18446744073709551616) (hr : r ≤ 256) (hf : f < 18446744073709551616) (ha : a < 18446744073709551616) (X0 : List Int) (X1 : List Int) (X2 : List Int) (X3 : List Int) (L0 : List Int) (L1 : List Int) (L2 : List Int) (L3 : List Int) (L4 : List Int) (S : List Int) (HS : Hid (S.length = 64)) (e00 : L0 = [])
    (PM : Hid (∀ w : World, Calls Tryd.prog 9 #[magg i (r : Int) f a] w fun e w' => e = .returned (.bool true) ∧ Below w.heap.size w w'))
    (y0 : Hid (X0.length = 8)) (y1 : Hid (X1.length = 2)) (y2 : Hid (X2.length = 8)) (y3 : Hid (X3.length = 8)) (e0 : Hid (L0.length = 0)) (e1 : Hid (L1.length = 8)) (e2 : Hid (L2.length = 10)) (e3 : Hid (L3.length = 18)) (e4 : Hid (L4.length = 26)) (j0 : Hid (L0 ++ X0 = L1)) (j1 : Hid (L1 ++ X1 = L2)) (j2 : Hid (L2 ++ X2 = L3)) (j3 : Hid (L3 ++ X3 = L4)) (P0 : Hid (PutN 8 i X0 0)) (P1 : Hid (PutN 2 r X1 0)) (P2 : Hid (PutN 8 f X2 0)) (P3 : Hid (PutN 8 a X3 0))
    (PP : Hid (∀ (A : Option Addr) (c : Nat) (w : World), ReadsInt w .u8 A L4.length L4 → Calls Tryd.prog 20 #[.int .u64 (n : Int), .slice A L4.length c] w fun e w' => e = .returned (.tuple #[blk S, .int .i64 0]) ∧ Below w.heap.size w w')) (w : World) (SZ : Hid (Siz w)) :
    Calls Tryd.prog 7 #[.int .u64 (n : Int), magg i (r : Int) f a] w fun e w' => e = .returned (.tuple #[blk S, .int .i64 0]) ∧ Below w.heap.size w w' := by
  have HB := Lib.hid (Below.refl w.heap.size w)
  have g1 : decide (n < 1) = false := by simp; omega
  have g2 : decide ((n : Int) < 1) = false := by simp; omega
  have g3 : decide (4611686018427387904 < n) = false := by simp; omega
  have g4 : decide ((4611686018427387904 : Int) < (n : Int)) = false := by simp; omega
  have tok0 : True := trivial
  have tp0 : True := trivial
  go_enter Tryd.func7, Tryd.ntmps7
  go_wp2_with (first
    | (go_skip)
    | (refine F.rowBox 24 (.tmp 1) rfl rfl rfl ?_; intro w1 hk hb1 hz1; replace HB := Lib.hid (below_ext HB.out hb1); have K3 := Lib.hid hk; clear hk hb1)
    | (have _t := tok0; refine F.blkAlloc rfl rfl ?_; intro w2 hk hb2 hz2; replace K3 := Lib.hid (K3.out.below hb2); replace HB := Lib.hid (below_ext HB.out hb2); have K4 := Lib.hid hk; have tok1 : True := trivial; clear hk hb2 _t tok0)
    | (refine F.rowLoad 24 (.tmp 3) rfl K3.out rfl Tryd.underlying24 rfl info_mark rfl ?_)
    | (have _t := tp0; go_at_call 9; refine (PM.out _).mono ?_; rintro e w3 ⟨rfl, hb3⟩; replace K3 := Lib.hid (K3.out.below hb3); replace K4 := Lib.hid (K4.out.below hb3); replace HB := Lib.hid (below_ext HB.out hb3); have hz3 := hb3.size; clear hb3; have tp1 : True := trivial; clear _t tp0)
    | (refine F.rowCell _ (.tmp 23) rfl (K3.out.cell (o := 0) rfl) rfl agg_u64 rfl ?_)
    | (refine F.rowCell _ (.tmp 25) rfl (K3.out.cell (o := 1) rfl) rfl agg_int rfl ?_)
    | (refine F.rowCell _ (.tmp 28) rfl (K3.out.cell (o := 2) rfl) rfl agg_u64 rfl ?_)
    | (refine F.rowCell _ (.tmp 30) rfl (K3.out.cell (o := 3) rfl) rfl agg_u64 rfl ?_))
  replace SZ := Lib.hid (SZ.out.below HB.out)
  go_loopw [6, 33] (fun v i wr => ∃ q : Nat, q ≤ 4 ∧ i = .int .i64 (q : Int) ∧ Hid (wr.ownsRow w3.heap.size 5 1 v (Lq L0 L1 L2 L3 L4 q).length (nums .u8 (Lq L0 L1 L2 L3 L4 q))) ∧ Hid (Below w3.heap.size w3 wr)) (fun _ i _ => 4 - (intOf i).toNat)
  case atStart => exact ⟨0, by omega, rfl, Lib.hid (by subst e00; exact own_nil w3 w3.heap.size 5 1), Lib.hid (Below.refl _ _)⟩
  case round =>
    obtain ⟨q, hq, rfl, HO, HC⟩ := hrel
    rcases (by omega : q = 0 ∨ q = 1 ∨ q = 2 ∨ q = 3 ∨ q = 4) with rfl | rfl | rfl | rfl | rfl
    · have HL := Lib.hid (show (L0.length + X0.length) * 1 ≤ 140737488355328 by rw [e0.out, y0.out]; decide)
      go_wp2_with (first
        | (refine F.aggIndex (i := 0) (n := 4) 42 (.tmp 32) (.tmp 33) rfl rfl rfl Tryd.underlying42 (by decide) agg_u64 size_u64 rfl rfl ?_)
        | (refine F.rowCell _ (.tmp 40) rfl ((SZ.out.below HC.out).cell (j := 0) rfl) rfl agg_int rfl ?_)
        | (go_at_call 19; refine (P0.out _).mono ?_; rintro e w5 ⟨⟨A1, c1, rfl, o1⟩, hb5⟩; have O1 := Lib.hid o1; replace HO := Lib.hid (pw_own_below HO.out hb5); replace HC := Lib.hid (below_ext HC.out hb5); clear o1 hb5)
        | (at_builtin; refine print_append_row (w0 := w3) w3.heap.size rfl (.tmp 45) (.tmp 46) 34 5 .u8 1 rfl Tryd.underlying34 info_u8 (by decide) _ L0 X0 A1 X0.length c1 rfl rfl HO.out O1.out.reads HC.out HC.out.size HL.out ?_; intro v6 w6 ho6 hb6 hg6 hat6; rw [j0.out] at ho6; have O6 := Lib.hid ho6; replace HC := Lib.hid hb6; clear ho6 hb6 hg6 hat6 HO O1))
      go_roundw
      case rel => exact ⟨1, by omega, rfl, O6, HC⟩
      case measure => simp [intOf]
    · have HL := Lib.hid (show (L1.length + X1.length) * 1 ≤ 140737488355328 by rw [e1.out, y1.out]; decide)
      go_wp2_with (first
        | (refine F.aggIndex (i := 1) (n := 4) 42 (.tmp 32) (.tmp 33) rfl rfl rfl Tryd.underlying42 (by decide) agg_u64 size_u64 rfl rfl ?_)
        | (refine F.rowCell _ (.tmp 40) rfl ((SZ.out.below HC.out).cell (j := 1) rfl) rfl agg_int rfl ?_)
        | (go_at_call 19; refine (P1.out _).mono ?_; rintro e w5 ⟨⟨A1, c1, rfl, o1⟩, hb5⟩; have O1 := Lib.hid o1; replace HO := Lib.hid (pw_own_below HO.out hb5); replace HC := Lib.hid (below_ext HC.out hb5); clear o1 hb5)
        | (at_builtin; refine print_append_row (w0 := w3) w3.heap.size rfl (.tmp 45) (.tmp 46) 34 5 .u8 1 rfl Tryd.underlying34 info_u8 (by decide) _ L1 X1 A1 X1.length c1 rfl rfl HO.out O1.out.reads HC.out HC.out.size HL.out ?_; intro v6 w6 ho6 hb6 hg6 hat6; rw [j1.out] at ho6; have O6 := Lib.hid ho6; replace HC := Lib.hid hb6; clear ho6 hb6 hg6 hat6 HO O1))
      go_roundw
      case rel => exact ⟨2, by omega, rfl, O6, HC⟩
      case measure => simp [intOf]
    · have HL := Lib.hid (show (L2.length + X2.length) * 1 ≤ 140737488355328 by rw [e2.out, y2.out]; decide)
      go_wp2_with (first
        | (refine F.aggIndex (i := 2) (n := 4) 42 (.tmp 32) (.tmp 33) rfl rfl rfl Tryd.underlying42 (by decide) agg_u64 size_u64 rfl rfl ?_)
        | (refine F.rowCell _ (.tmp 40) rfl ((SZ.out.below HC.out).cell (j := 2) rfl) rfl agg_int rfl ?_)
        | (go_at_call 19; refine (P2.out _).mono ?_; rintro e w5 ⟨⟨A1, c1, rfl, o1⟩, hb5⟩; have O1 := Lib.hid o1; replace HO := Lib.hid (pw_own_below HO.out hb5); replace HC := Lib.hid (below_ext HC.out hb5); clear o1 hb5)
        | (at_builtin; refine print_append_row (w0 := w3) w3.heap.size rfl (.tmp 45) (.tmp 46) 34 5 .u8 1 rfl Tryd.underlying34 info_u8 (by decide) _ L2 X2 A1 X2.length c1 rfl rfl HO.out O1.out.reads HC.out HC.out.size HL.out ?_; intro v6 w6 ho6 hb6 hg6 hat6; rw [j2.out] at ho6; have O6 := Lib.hid ho6; replace HC := Lib.hid hb6; clear ho6 hb6 hg6 hat6 HO O1))
      go_roundw
      case rel => exact ⟨3, by omega, rfl, O6, HC⟩
      case measure => simp [intOf]
    · have HL := Lib.hid (show (L3.length + X3.length) * 1 ≤ 140737488355328 by rw [e3.out, y3.out]; decide)
      go_wp2_with (first
        | (refine F.aggIndex (i := 3) (n := 4) 42 (.tmp 32) (.tmp 33) rfl rfl rfl Tryd.underlying42 (by decide) agg_u64 size_u64 rfl rfl ?_)
        | (refine F.rowCell _ (.tmp 40) rfl ((SZ.out.below HC.out).cell (j := 3) rfl) rfl agg_int rfl ?_)
        | (go_at_call 19; refine (P3.out _).mono ?_; rintro e w5 ⟨⟨A1, c1, rfl, o1⟩, hb5⟩; have O1 := Lib.hid o1; replace HO := Lib.hid (pw_own_below HO.out hb5); replace HC := Lib.hid (below_ext HC.out hb5); clear o1 hb5)
        | (at_builtin; refine print_append_row (w0 := w3) w3.heap.size rfl (.tmp 45) (.tmp 46) 34 5 .u8 1 rfl Tryd.underlying34 info_u8 (by decide) _ L3 X3 A1 X3.length c1 rfl rfl HO.out O1.out.reads HC.out HC.out.size HL.out ?_; intro v6 w6 ho6 hb6 hg6 hat6; rw [j3.out] at ho6; have O6 := Lib.hid ho6; replace HC := Lib.hid hb6; clear ho6 hb6 hg6 hat6 HO O1))
      go_roundw
      case rel => exact ⟨4, by omega, rfl, O6, HC⟩
      case measure => simp [intOf]
    · obtain ⟨A4, c4, he4, hr4⟩ := byts_of HO.out rfl
      have HR := Lib.hid (show ReadsInt wr .u8 A4 L4.length L4 from hr4.reads)
      subst he4
      replace K4 := Lib.hid (K4.out.below HC.out)
      replace HB := Lib.hid (below_ext HB.out HC.out)
      clear hr4 HO HC
      go_wp2_with (first
        | (go_at_call 20; refine (PP.out _ _ _ HR.out).mono ?_; rintro e w7 ⟨rfl, hb7⟩; replace K4 := Lib.hid (K4.out.below hb7); replace HB := Lib.hid (below_ext HB.out hb7); clear hb7)
        | (refine F.blkStore (.tmp 4) (.tmp 52) rfl K4.out rfl rfl HS.out rfl ?_; intro w8 hk hg; replace HB := Lib.hid (below_at HB.out hg (by omega) K4.out.lt); replace K4 := Lib.hid hk; clear hk hg))
      exact bodyPost_ret (v := .tuple #[blk S, .int .i64 0]) (ret_blk rfl _ _ K4.out rfl rfl) rfl ⟨rfl, HB.out⟩
end Go.Proofs.YtdchcggllcgokaaDoor.K

namespace Go.Proofs.YtdchcggllcgokaaDoor.K
open Go.RowKit Go.Proofs.YtdchcggllcgokaaDoor.L Go.Proofs.YtdchcggllcgokaaDoor.U Go.Proofs.YtdchcggllcgokaaDoor.R Go.Proofs.YtdchcggllcgokaaDoor.E Go.Proofs.YtdchcggllcgokaaDoorW.PrintWords
set_option linter.unusedVariables false
set_option linter.unusedSimpArgs false
theorem part_plain {P : Program} {t : TypeId} (hag : ∀ w : World, (isAgg t).run P w = .ok false w) {cs : Array Value} {o : Nat} {v : Value} (h : cs[o]? = some v) (w : World) : (part t cs o).run P w = .ok v w := by
  simp [part, hag, h]
abbrev mk4 (i r f a : Int) : Array Value := #[.int .u64 i, .int .i64 r, .int .u64 f, .int .u64 a]
theorem run_eqm (w : World) (i r f a i' r' f' a' : Int) : (Op.equalIn 10000 24 (.agg (mk4 i r f a)) (.agg (mk4 i' r' f' a'))).run Tryd.prog w = .ok (i == i' && (r == r' && (f == f' && a == a'))) w := by
  refine eqA_of Tryd.underlying24 (by kernel_rfl) ?_
  refine eqf_cons rfl (part_plain agg_u64 rfl w) (part_plain agg_u64 rfl w) (run_equalIn_int w _ _ _ .u64 _ _ Tryd.underlying22) ?_
  refine eqf_cons rfl (part_plain agg_int rfl w) (part_plain agg_int rfl w) (run_equalIn_int w _ _ _ .i64 _ _ Tryd.underlying3) ?_
  refine eqf_cons rfl (part_plain agg_u64 rfl w) (part_plain agg_u64 rfl w) (run_equalIn_int w _ _ _ .u64 _ _ Tryd.underlying22) ?_
  exact eqf_last rfl (part_plain agg_u64 rfl w) (part_plain agg_u64 rfl w) (run_equalIn_int w _ _ _ .u64 _ _ Tryd.underlying22)
theorem guard_mark : Tryd.prog.eqGuardType Tryd.prog.depth 24 = false := by kernel_rfl
section
variable {ops : Array Oper} {rest : List Oper} {op : Oper} {A : Act} {w : World} {Q : Exit → Act → World → Prop}
theorem run_markEql (x y : Operand) (t : TypeId) {i r f a i' r' f' a' : Int} {A : Act} {op : Oper} (ho : op.op = .binOp .eql 24 x y t) (hx : A.eval x = .agg (mk4 i r f a)) (hy : A.eval y = .agg (mk4 i' r' f' a')) (b : Bool) (hb : (i == i' && (r == r' && (f == f' && a == a'))) = b) (w : World) :
    (execOp A.eval op).run Tryd.prog w = .ok (.value (.bool b)) w := by
  subst hb
  have h1 : (eqGuard .eql 24 x y (.agg (mk4 i r f a)) (.agg (mk4 i' r' f' a'))).run Tryd.prog w = .ok () w := run_eqGuard_agg w .eql _ x y _ _ guard_mark
  unfold execOp
  simp only [ho, hx, hy, Sem.run_bind, Sem.run_map, h1, run_eql_struct, run_eqm, Result.andThen_ok, Sem.run_pure]
theorem run_markNeq (x y : Operand) (t : TypeId) {i r f a i' r' f' a' : Int} {A : Act} {op : Oper} (ho : op.op = .binOp .neq 24 x y t) (hx : A.eval x = .agg (mk4 i r f a)) (hy : A.eval y = .agg (mk4 i' r' f' a')) (b : Bool) (hb : (i == i' && (r == r' && (f == f' && a == a'))) = !b) (w : World) :
    (execOp A.eval op).run Tryd.prog w = .ok (.value (.bool b)) w := by
  have hb2 : b = !(i == i' && (r == r' && (f == f' && a == a'))) := by rw [hb, Bool.not_not]
  subst hb2
  have h1 : (eqGuard .neq 24 x y (.agg (mk4 i r f a)) (.agg (mk4 i' r' f' a'))).run Tryd.prog w = .ok () w := run_eqGuard_agg w .neq _ x y _ _ guard_mark
  unfold execOp
  simp only [ho, hx, hy, Sem.run_bind, Sem.run_map, h1, run_neq_struct, run_eqm, Result.andThen_ok, Sem.run_pure]
theorem valStep {v : Value} (hr : (execOp A.eval op).run Tryd.prog w = .ok (.value v) w) (hw : Region.wanted op (yielded ops A.tmps) = true) (h : wpList Tryd.prog ops Q rest (A.put op.dst v) w) : wpList Tryd.prog ops Q (op :: rest) A w := by
  refine wanted_step hw fun K hK => ?_
  unfold Oper.wp
  rw [hr]
  exact hK _ _ h
end
end Go.Proofs.YtdchcggllcgokaaDoor.K

namespace Go.Proofs.YtdchcggllcgokaaDoor.K
open Go.ChangeShapes Go.WideShapes Go.ChangeAt Go.RowKit
set_option linter.unusedVariables false
theorem gSizes : Tryd.prog.globalNamed "ashlar/mark.sizes" = some 0 := by kernel_rfl
theorem tSizes : (Tryd.prog.globals[0]?).map (·.type) = some 45 := by kernel_rfl
abbrev laidS : List (String × DataW Unit) := [("ashlar/mark.sizes", Rows.laid_ashlar_mark_sizes)]
theorem door_met (os : Os) (args : Array Value) : laidMetH Tryd.prog laidS ((World.doorLaid Tryd.prog 14 os).forCall (fun _ _ => 0) ⟨#[], args, []⟩).memory :=
  laidMetH_of_parts3 (fuel := 8) (laidMet_of_run' 8 (by kernel_rfl) (by kernel_rfl)) (by kernel_rfl) (by kernel_rfl)
theorem of_laid {W : World} (h : laidMetH Tryd.prog laidS W) : Siz W := by
  rw [MakeChecks.laidMetH_plain _ _ _ (by kernel_rfl)] at h
  obtain ⟨ps, ⟨g0, t0, cs0, f0, p0, q0, hg0, ht0, hv0, hd0, _⟩, _⟩ := h
  obtain rfl := Option.some.inj (gSizes.symm.trans hg0)
  obtain rfl := Option.some.inj (tSizes.symm.trans ht0)
  obtain ⟨xs, m1, rfl, hx1, hlen, hn4, hel⟩ := DataW.trod_array Tryd.underlying45 hd0
  have c3 : Tryd.prog.cellsOf 3 = 1 := by kernel_rfl
  have c45 : Tryd.prog.cellsOf 45 = 4 := by kernel_rfl
  have h0 := hel 0 (by decide)
  have h1 := hel 1 (by decide)
  have h2 := hel 2 (by decide)
  have h3 := hel 3 (by decide)
  have hv := World.var?_cell hg0 hv0
  simp only [Rows.laid_ashlar_mark_sizes, Prod.mk.injEq, DataW.agg.injEq] at hx1
  rw [c45] at hlen
  clear hel
  simp only [c3] at h0 h1 h2 h3
  obtain ⟨l⟩ := cs0
  match l, hlen, hv, xs, hn4, h0, h1, h2, h3, hx1 with
  | [a0, a1, a2, a3], _, hv, [x0, x1, x2, x3], _, h0, h1, h2, h3, hx1 =>
    simp only [List.map_cons, List.map_nil, List.cons.injEq] at hx1
    obtain ⟨k0, p0, q0, _⟩ := DataW.trod_int Tryd.underlying3 (show DataW.trod _ Tryd.prog W 0 _ false m1 3 _ = some x0 from h0)
    obtain ⟨k1, p1, q1, _⟩ := DataW.trod_int Tryd.underlying3 (show DataW.trod _ Tryd.prog W 0 _ false m1 3 _ = some x1 from h1)
    obtain ⟨k2, p2, q2, _⟩ := DataW.trod_int Tryd.underlying3 (show DataW.trod _ Tryd.prog W 0 _ false m1 3 _ = some x2 from h2)
    obtain ⟨k3, p3, q3, _⟩ := DataW.trod_int Tryd.underlying3 (show DataW.trod _ Tryd.prog W 0 _ false m1 3 _ = some x3 from h3)
    obtain ⟨⟨e0, e1, e2, e3, _⟩, _⟩ := hx1
    rw [q0] at e0; rw [q1] at e1; rw [q2] at e2; rw [q3] at e3
    injection e0 with e0; injection e0 with _ e0; subst e0
    injection e1 with e1; injection e1 with _ e1; subst e1
    injection e2 with e2; injection e2 with _ e2; subst e2
    injection e3 with e3; injection e3 with _ e3; subst e3
    simp at p0 p1 p2 p3
    subst p0 p1 p2 p3
    have v0 := hv 0
    have v1 := hv 1
    have v2 := hv 2
    have v3 := hv 3
    simp at v0 v1 v2 v3
    refine ⟨fun j v hj => ?_, ?_⟩
    · rw [Nat.zero_add]
      match j, hj with
      | 0, hj => rw [← hj]; exact v0
      | 1, hj => rw [← hj]; exact v1
      | 2, hj => rw [← hj]; exact v2
      | 3, hj => rw [← hj]; exact v3
      | j + 4, hj => simp at hj
    · cases hh : W.heap[0]? with
      | none => simp [World.cell?, hh] at v0
      | some o => exact (Array.getElem?_eq_some_iff.1 hh).1
end Go.Proofs.YtdchcggllcgokaaDoor.K

namespace Go.Proofs.YtdchcggllcgokaaDoor.K
open Go.RowKit Go.Proofs.YtdchcggllcgokaaDoor.L Go.Proofs.YtdchcggllcgokaaDoor.U Go.Proofs.YtdchcggllcgokaaDoor.R Go.Proofs.YtdchcggllcgokaaDoor.E Go.Proofs.YtdchcggllcgokaaDoorW.PrintWords
set_option linter.unusedVariables false
set_option linter.unusedSimpArgs false
set_option maxRecDepth 100000 in
set_option maxHeartbeats 2000000 in
theorem body_walk (i r f a : Nat) (hi : i < 18446744073709551616) (hr : r ≤ 256) (hf : f < 18446744073709551616) (ha : a < 18446744073709551616) (X0 : List Int) (X1 : List Int) (X2 : List Int) (X3 : List Int) (L2 : List Int) (L3 : List Int) (L4 : List Int)
    (y0 : Hid (X0.length = 8)) (y1 : Hid (X1.length = 2)) (y2 : Hid (X2.length = 8)) (y3 : Hid (X3.length = 8)) (j1 : Hid (X0 ++ X1 = L2)) (j2 : Hid (L2 ++ X2 = L3)) (j3 : Hid (L3 ++ X3 = L4)) (l2 : Hid (L2.length = 10)) (l3 : Hid (L3.length = 18))
    (P0 : Hid (rPutN 8 i X0 0)) (P1 : Hid (rPutN 2 r X1 0)) (P2 : Hid (rPutN 8 f X2 0)) (P3 : Hid (rPutN 8 a X3 0)) (w : World) :
    Calls Tryd.prog 21 #[magg i (r : Int) f a] w fun e w' => (∃ A k, e = .returned (.slice A L4.length k) ∧ Byts w.heap.size w' A k L4) ∧ Below w.heap.size w w' := by
  have HB := Lib.hid (Below.refl w.heap.size w)
  have HL1 := Lib.hid (show (X0.length + X1.length) * 1 ≤ 140737488355328 by rw [y0.out, y1.out]; decide)
  have HL2 := Lib.hid (show (L2.length + X2.length) * 1 ≤ 140737488355328 by rw [l2.out, y2.out]; decide)
  have HL3 := Lib.hid (show (L3.length + X3.length) * 1 ≤ 140737488355328 by rw [l3.out, y3.out]; decide)
  have tp0 : True := trivial
  go_enter Tryd.func21, Tryd.ntmps21
  go_wp2_with (first
    | (go_skip)
    | (refine F.rowBox 24 (.tmp 0) rfl rfl rfl ?_; intro w1 hk hb hz1; have K1 := Lib.hid hk; replace HB := Lib.hid (below_ext HB.out hb); clear hk hb)
    | (refine F.rowCell _ (.tmp 12) rfl (K1.out.cell (o := 0) rfl) rfl agg_u64 rfl ?_)
    | (refine F.rowCell _ (.tmp 18) rfl (K1.out.cell (o := 1) rfl) rfl agg_int rfl ?_)
    | (refine F.rowCell _ (.tmp 25) rfl (K1.out.cell (o := 2) rfl) rfl agg_u64 rfl ?_)
    | (refine F.rowCell _ (.tmp 31) rfl (K1.out.cell (o := 3) rfl) rfl agg_u64 rfl ?_)
    | (have _t := tp0; go_at_call 29; refine (P0.out _).mono ?_; rintro e w2 ⟨⟨A0, c0, rfl, o0⟩, hb⟩; have O0 := Lib.hid (own_lower o0 HB.out.size); replace K1 := Lib.hid (K1.out.below hb); replace HB := Lib.hid (below_ext HB.out hb); have tp1 : True := trivial; clear hb o0 _t tp0)
    | (have _t := tp1; go_at_call 29; refine (P1.out _).mono ?_; rintro e w3 ⟨⟨A1, c1, rfl, o1⟩, hb⟩; have O1 := Lib.hid o1; replace O0 := Lib.hid (pw_own_below O0.out hb); replace K1 := Lib.hid (K1.out.below hb); replace HB := Lib.hid (below_ext HB.out hb); have tp2 : True := trivial; clear hb o1 _t tp1)
    | (have _t := tp2; go_at_call 29; refine (P2.out _).mono ?_; rintro e w4 ⟨⟨A2, c2, rfl, o2⟩, hb⟩; have N02 := Lib.hid (ne_symm (ne_below (v1 := .slice A2 X2.length c2) o2 O0.out)); have O2 := Lib.hid o2; replace O0 := Lib.hid (pw_own_below O0.out hb); replace O1 := Lib.hid (O1.out.below hb); replace K1 := Lib.hid (K1.out.below hb); replace HB := Lib.hid (below_ext HB.out hb); have tp3 : True := trivial; clear hb o2 _t tp2)
    | (have _t := tp3; go_at_call 29; refine (P3.out _).mono ?_; rintro e w5 ⟨⟨A3, c3, rfl, o3⟩, hb⟩; have N03 := Lib.hid (ne_symm (ne_below (v1 := .slice A3 X3.length c3) o3 O0.out)); have O3 := Lib.hid o3; replace O0 := Lib.hid (pw_own_below O0.out hb); replace O1 := Lib.hid (O1.out.below hb); replace O2 := Lib.hid (O2.out.below hb); have tk1 : True := trivial; replace K1 := Lib.hid (K1.out.below hb); replace HB := Lib.hid (below_ext HB.out hb); have tp4 : True := trivial; clear hb o3 _t tp3)
    | (at_builtin; have _t := tk1; refine print_append_row (w0 := w) w.heap.size rfl (.tmp 36) (.tmp 37) 34 5 .u8 1 rfl Tryd.underlying34 info_u8 (by decide) _ X0 X1 A1 X1.length c1 rfl rfl O0.out (own_reads' O1.out) HB.out HB.out.size HL1.out ?_; intro v7 w7 ho hb hg hat; rw [j1.out] at ho; replace N03 := Lib.hid (⟨N03.out, ne_append N03.out hat O3.out⟩ : _ ∧ _); replace O2 := Lib.hid (own_other O2.out hg (ne_other N02.out)); replace O3 := Lib.hid (own_other O3.out hg (ne_other N03.out.1)); replace N03 := Lib.hid N03.out.2; replace HB := Lib.hid hb; have V1 := Lib.hid ho; have tk2 : True := trivial; clear ho hb hg hat _t tk1)
    | (at_builtin; have _t := tk2; refine print_append_row (w0 := w) w.heap.size rfl (.tmp 39) (.tmp 40) 34 5 .u8 1 rfl Tryd.underlying34 info_u8 (by decide) _ L2 X2 A2 X2.length c2 rfl rfl V1.out (own_reads' O2.out) HB.out HB.out.size HL2.out ?_; intro v8 w8 ho hb hg hat; rw [j2.out] at ho; replace O3 := Lib.hid (own_other O3.out hg (ne_other N03.out)); replace HB := Lib.hid hb; have V2 := Lib.hid ho; have tk3 : True := trivial; clear ho hb hg hat _t tk2)
    | (at_builtin; have _t := tk3; refine print_append_row (w0 := w) w.heap.size rfl (.tmp 42) (.tmp 43) 34 5 .u8 1 rfl Tryd.underlying34 info_u8 (by decide) _ L3 X3 A3 X3.length c3 rfl rfl V2.out (own_reads' O3.out) HB.out HB.out.size HL3.out ?_; intro v9 w9 ho hb hg hat; rw [j3.out] at ho; skip; replace HB := Lib.hid hb; have V3 := Lib.hid ho; have tk4 : True := trivial; clear ho hb hg hat _t tk3))
  go_ret
  obtain ⟨A5, c5, he, h5⟩ := byts_of V3.out rfl
  exact ⟨⟨A5, c5, by rw [← he]; rfl, h5⟩, HB.out⟩
set_option maxRecDepth 100000 in
set_option maxHeartbeats 2000000 in
theorem rPut_y (n i r f a : Nat) (h1 : 1 ≤ n) (h2 : n ≤ 4611686018427387904) (S D : List Int) (HS : Hid (S.length = 64))
    (PM : Hid (∀ w : World, Calls Tryd.prog 10 #[magg i (r : Int) f a] w fun e w' => e = .returned (.bool true) ∧ Below w.heap.size w w'))
    (PB : Hid (∀ w : World, Calls Tryd.prog 21 #[magg i (r : Int) f a] w fun e w' => (∃ A k, e = .returned (.slice A D.length k) ∧ Byts w.heap.size w' A k D) ∧ Below w.heap.size w w'))
    (PP : Hid (∀ (A : Option Addr) (c : Nat) (w : World), ReadsInt w .u8 A D.length D → Calls Tryd.prog 16 #[.int .u64 (n : Int), .slice A D.length c] w fun e w' => e = .returned (.tuple #[blk S, .int .i64 0]) ∧ Below w.heap.size w w')) (w : World) :
    Calls Tryd.prog 8 #[.int .u64 (n : Int), magg i (r : Int) f a] w fun e w' => e = .returned (.tuple #[blk S, .int .i64 0]) ∧ Below w.heap.size w w' := by
  have HB := Lib.hid (Below.refl w.heap.size w)
  have g1 : decide (n < 1) = false := by simp; omega
  have g2 : decide ((n : Int) < 1) = false := by simp; omega
  have g3 : decide (4611686018427387904 < n) = false := by simp; omega
  have g4 : decide ((4611686018427387904 : Int) < (n : Int)) = false := by simp; omega
  have tok0 : True := trivial
  have tp0 : True := trivial
  go_enter Tryd.func8, Tryd.ntmps8
  go_wp2_with (first
    | (go_skip)
    | (refine F.rowBox 24 (.tmp 1) rfl rfl rfl ?_; intro w1 hk hb1 hz1; replace HB := Lib.hid (below_ext HB.out hb1); have K3 := Lib.hid hk; clear hk hb1)
    | (have _t := tok0; refine F.blkAlloc rfl rfl ?_; intro w2 hk hb2 hz2; replace K3 := Lib.hid (K3.out.below hb2); replace HB := Lib.hid (below_ext HB.out hb2); have K4 := Lib.hid hk; have tok1 : True := trivial; clear hk hb2 _t tok0)
    | (refine F.rowLoad 24 (.tmp 3) rfl K3.out rfl Tryd.underlying24 rfl info_mark rfl ?_)
    | (have _t := tp0; go_at_call 10; refine (PM.out _).mono ?_; rintro e w3 ⟨rfl, hb3⟩; replace K3 := Lib.hid (K3.out.below hb3); replace K4 := Lib.hid (K4.out.below hb3); replace HB := Lib.hid (below_ext HB.out hb3); have hz3 := hb3.size; clear hb3; have tp1 : True := trivial; clear _t tp0)
    | (have _t := tp1; go_at_call 21; refine (PB.out _).mono ?_; rintro e w4 ⟨⟨A1, c1, rfl, o1⟩, hb4⟩; have O1 := Lib.hid o1; replace K3 := Lib.hid (K3.out.below hb4); replace K4 := Lib.hid (K4.out.below hb4); replace HB := Lib.hid (below_ext HB.out hb4); have hz4 := hb4.size; clear hb4; have tp2 : True := trivial; clear _t tp1)
    | (have _t := tp2; go_at_call 16; refine (PP.out _ _ _ O1.out.reads).mono ?_; rintro e w5 ⟨rfl, hb5⟩; replace K3 := Lib.hid (K3.out.below hb5); replace K4 := Lib.hid (K4.out.below hb5); replace O1 := Lib.hid (O1.out.below hb5); replace HB := Lib.hid (below_ext HB.out hb5); have hz5 := hb5.size; clear hb5; have tp3 : True := trivial; clear _t tp2)
    | (refine F.blkStore (.tmp 4) (.tmp 22) rfl K4.out rfl rfl HS.out rfl ?_; intro w6 hk hg; replace HB := Lib.hid (below_at HB.out hg (by omega) K4.out.lt); replace K3 := Lib.hid (K3.out.grown hg (by omega)); replace O1 := Lib.hid (Byts.grown O1.out hg (by omega)); replace K4 := Lib.hid hk; have hz6 := hg.size; clear hk hg))
  exact bodyPost_ret (v := .tuple #[blk S, .int .i64 0]) (ret_blk rfl _ _ K4.out rfl rfl) rfl ⟨rfl, HB.out⟩
theorem Put_any (n i : Nat) (r : Int) (f a : Nat) (hn : n < 18446744073709551616) (hi : i < 18446744073709551616) (hr : -9223372036854775808 ≤ r ∧ r ≤ 9223372036854775807) (hf : f < 18446744073709551616) (ha : a < 18446744073709551616) (w : World) (SZ : Siz w) :
    Calls Tryd.prog 7 #[.int .u64 (n : Int), magg i r f a] w fun e w' => e = .returned (.tuple #[blk (marks n i r f a).1, .int .i64 (marks n i r f a).2]) ∧ Below w.heap.size w w' := by
  by_cases hk : okM n i r f a = true
  · have ho := okM_ok hk
    obtain ⟨r, rfl⟩ : ∃ d : Nat, r = d := ⟨r.toNat, by omega⟩
    rw [mark_ok hk]
    have hm := fun w => May_any i (r : Int) f a hi hr hf ha w
    rw [show mayM i (r : Int) f a = true by rw [mayM, decide_eq_true_eq]; exact ho.2.2] at hm
    have b0 := put_n (s := 8) hi (by decide) (puts_ok (by decide) (by decide) (by omega))
    have b1 := put_n (s := 2) (n := r) (by omega) (by decide) (puts_ok (by decide) (by decide) (by omega))
    have b2 := put_n (s := 8) hf (by decide) (puts_ok (by decide) (by decide) (by omega))
    have b3 := put_n (s := 8) ha (by decide) (puts_ok (by decide) (by decide) (by omega))
    have pp := put_b (n := n) (ys := mbody i r f a) hn (mbody_wf i r f a) (seals_ok (by omega) (by rw [mbody_length]; omega))
    have hS : (sealed n (mbody i r f a)).length = 64 := sealed_length (by rw [mbody_length]; omega)
    exact Put_y n i r f a ho.1 ho.2.1 hi (by omega) hf ha (putb i 8) (putb r 2) (putb f 8) (putb a 8) [] (putb i 8) (putb i 8 ++ putb r 2) (putb i 8 ++ putb r 2 ++ putb f 8) (mbody i r f a) _ (Lib.hid hS) rfl (Lib.hid hm)
      (Lib.hid (putb_length _ _)) (Lib.hid (putb_length _ _)) (Lib.hid (putb_length _ _)) (Lib.hid (putb_length _ _)) (Lib.hid rfl) (Lib.hid (putb_length _ _)) (Lib.hid (by simp [putb_length])) (Lib.hid (by simp [putb_length])) (Lib.hid (mbody_length _ _ _ _))
      (Lib.hid rfl) (Lib.hid rfl) (Lib.hid rfl) (Lib.hid rfl) (Lib.hid b0) (Lib.hid b1) (Lib.hid b2) (Lib.hid b3) (Lib.hid pp) w (Lib.hid SZ)
  · have hk' : okM n i r f a = false := by simpa using hk
    rw [mark_no hk']
    have hm := fun w => May_any i r f a hi hr hf ha w
    by_cases h1 : n < 1
    · exact Put_n0 n i r f a hn h1 w
    by_cases h2 : 4611686018427387904 < n
    · exact Put_n1 n i r f a hn (by omega) h2 w
    have h3 : mayM i r f a = false := by
      simp only [okM, Bool.and_eq_false_iff, decide_eq_false_iff_not] at hk'
      rcases hk' with hk' | hk'
      · omega
      · exact hk'
    rw [h3] at hm
    exact Put_n2 n i r f a hn (by omega) (by omega) (Lib.hid hm) w
theorem rPut_any (n i : Nat) (r : Int) (f a : Nat) (hn : n < 18446744073709551616) (hi : i < 18446744073709551616) (hr : -9223372036854775808 ≤ r ∧ r ≤ 9223372036854775807) (hf : f < 18446744073709551616) (ha : a < 18446744073709551616) (w : World) :
    Calls Tryd.prog 8 #[.int .u64 (n : Int), magg i r f a] w fun e w' => e = .returned (.tuple #[blk (marks n i r f a).1, .int .i64 (marks n i r f a).2]) ∧ Below w.heap.size w w' := by
  by_cases hk : okM n i r f a = true
  · have ho := okM_ok hk
    obtain ⟨r, rfl⟩ : ∃ d : Nat, r = d := ⟨r.toNat, by omega⟩
    rw [mark_ok hk]
    have hm := fun w => rMay_any i (r : Int) f a hi hr hf ha w
    rw [show mayM i (r : Int) f a = true by rw [mayM, decide_eq_true_eq]; exact ho.2.2] at hm
    have b0 := rput_n (s := 8) hi (by decide) (puts_ok (by decide) (by decide) (by omega))
    have b1 := rput_n (s := 2) (n := r) (by omega) (by decide) (puts_ok (by decide) (by decide) (by omega))
    have b2 := rput_n (s := 8) hf (by decide) (puts_ok (by decide) (by decide) (by omega))
    have b3 := rput_n (s := 8) ha (by decide) (puts_ok (by decide) (by decide) (by omega))
    have pp := rput_b (n := n) (ys := mbody i r f a) hn (mbody_wf i r f a) (seals_ok (by omega) (by rw [mbody_length]; omega))
    have hS : (sealed n (mbody i r f a)).length = 64 := sealed_length (by rw [mbody_length]; omega)
    have bb := fun w => body_walk i r f a hi (by omega) hf ha (putb i 8) (putb r 2) (putb f 8) (putb a 8) (putb i 8 ++ putb r 2) (putb i 8 ++ putb r 2 ++ putb f 8) (mbody i r f a)
      (Lib.hid (putb_length _ _)) (Lib.hid (putb_length _ _)) (Lib.hid (putb_length _ _)) (Lib.hid (putb_length _ _)) (Lib.hid rfl) (Lib.hid rfl) (Lib.hid rfl) (Lib.hid (by simp [putb_length])) (Lib.hid (by simp [putb_length])) (Lib.hid b0) (Lib.hid b1) (Lib.hid b2) (Lib.hid b3) w
    exact rPut_y n i r f a ho.1 ho.2.1 _ _ (Lib.hid hS) (Lib.hid hm) (Lib.hid bb) (Lib.hid pp) w
  · have hk' : okM n i r f a = false := by simpa using hk
    rw [mark_no hk']
    have hm := fun w => rMay_any i r f a hi hr hf ha w
    by_cases h1 : n < 1
    · exact rPut_n0 n i r f a hn h1 w
    by_cases h2 : 4611686018427387904 < n
    · exact rPut_n1 n i r f a hn (by omega) h2 w
    have h3 : mayM i r f a = false := by
      simp only [okM, Bool.and_eq_false_iff, decide_eq_false_iff_not] at hk'
      rcases hk' with hk' | hk'
      · omega
      · exact hk'
    rw [h3] at hm
    exact rPut_n2 n i r f a hn (by omega) (by omega) (Lib.hid hm) w
end Go.Proofs.YtdchcggllcgokaaDoor.K

namespace Go.Proofs.YtdchcggllcgokaaDoor.K
open Go.RowKit Go.Proofs.YtdchcggllcgokaaDoor.L Go.Proofs.YtdchcggllcgokaaDoor.U Go.Proofs.YtdchcggllcgokaaDoor.R Go.Proofs.YtdchcggllcgokaaDoor.E Go.Proofs.YtdchcggllcgokaaDoorW.PrintWords
set_option linter.unusedVariables false
set_option linter.unusedSimpArgs false
theorem fn_any (v : Int) (b : Bool) (hb : (v != 0) = b) (w : World) : Calls Tryd.prog 26 #[.int .u8 v] w fun e w' => e = .returned (.bool b) ∧ Below w.heap.size w w' := by
  subst hb
  go_enter Tryd.func26, Tryd.ntmps26
  go_wp2
  go_ret
  exact ⟨rfl, Below.refl _ _⟩
set_option maxRecDepth 100000 in
set_option maxHeartbeats 2000000 in
theorem Idx_none (A : Option Addr) (c n : Nat) (ys : List Int) (hn : n ≤ 64) (h0 : Hid (∀ j : Nat, j < n → rd ys j = 0)) (w : World) (hr : Hid (ReadsInt w .u8 A n ys)) :
    Calls Tryd.prog 34 #[.slice A n c, .func (.func 26) #[] #[]] w fun e w' => e = .returned (.int .i64 (-1)) ∧ Below w.heap.size w w' := by
  go_enter Tryd.func34, Tryd.ntmps34
  go_wp2
  go_loopw [8] (fun i wr => ∃ q : Nat, q ≤ n ∧ i = .int .i64 (q : Int) ∧ Hid (∀ j : Nat, j < q → rd ys j = 0) ∧ Hid (ReadsInt wr .u8 A n ys) ∧ Hid (Below w.heap.size w wr)) (fun i _ => 64 - (intOf i).toNat)
  case atStart => exact ⟨0, by omega, rfl, Lib.hid (fun j h => absurd h (by omega)), hr, Lib.hid (Below.refl _ _)⟩
  case round =>
    clear hr
    obtain ⟨q, hq, rfl, HA, HR, HB⟩ := hrel
    by_cases hlt : q < n
    · obtain ⟨ax, rfl, cx⟩ := HR.out.at_ (q : Int) (by omega) (by omega)
      simp only [Int.toNat_natCast] at cx
      have hi0 : (0 : Int) ≤ (q : Int) := by omega
      by_cases he : rd ys q = 0
      · have PF := Lib.hid (fn_any (rd ys q) false (by simp [he]))
        have HE := Lib.hid he
        clear he
        go_wp2_with (first
          | (go_at_call 26; refine (PF.out _).mono ?_; rintro e w2 ⟨rfl, hb⟩; replace HR := Lib.hid (HR.out.below hb); replace HB := Lib.hid (below_ext HB.out hb); clear hb cx))
        go_roundw
        case rel =>
          refine ⟨q + 1, by omega, by go_num, Lib.hid (fun j h => ?_), HR, HB⟩
          rcases Nat.lt_or_ge j q with h | h
          · exact HA.out j h
          · obtain rfl : j = q := by omega
            exact HE.out
        case measure => simp [intOf]; omega
      · exact absurd (h0.out q hlt) he
    · go_wp2
      go_ret
      exact ⟨rfl, HB.out⟩
set_option maxRecDepth 100000 in
set_option maxHeartbeats 2000000 in
theorem Idx_some (A : Option Addr) (c n : Nat) (ys : List Int) (hn : n ≤ 64) (k : Nat) (hk : k < n) (h0 : Hid (∀ j : Nat, j < k → rd ys j = 0)) (h1 : Hid (rd ys k ≠ 0)) (w : World) (hr : Hid (ReadsInt w .u8 A n ys)) :
    Calls Tryd.prog 34 #[.slice A n c, .func (.func 26) #[] #[]] w fun e w' => e = .returned (.int .i64 ((k : Int))) ∧ Below w.heap.size w w' := by
  go_enter Tryd.func34, Tryd.ntmps34
  go_wp2
  go_loopw [8] (fun i wr => ∃ q : Nat, q ≤ n ∧ i = .int .i64 (q : Int) ∧ Hid (∀ j : Nat, j < q → rd ys j = 0) ∧ Hid (ReadsInt wr .u8 A n ys) ∧ Hid (Below w.heap.size w wr)) (fun i _ => 64 - (intOf i).toNat)
  case atStart => exact ⟨0, by omega, rfl, Lib.hid (fun j h => absurd h (by omega)), hr, Lib.hid (Below.refl _ _)⟩
  case round =>
    clear hr
    obtain ⟨q, hq, rfl, HA, HR, HB⟩ := hrel
    by_cases hlt : q < n
    · obtain ⟨ax, rfl, cx⟩ := HR.out.at_ (q : Int) (by omega) (by omega)
      simp only [Int.toNat_natCast] at cx
      have hi0 : (0 : Int) ≤ (q : Int) := by omega
      by_cases he : rd ys q = 0
      · have PF := Lib.hid (fn_any (rd ys q) false (by simp [he]))
        have HE := Lib.hid he
        clear he
        go_wp2_with (first
          | (go_at_call 26; refine (PF.out _).mono ?_; rintro e w2 ⟨rfl, hb⟩; replace HR := Lib.hid (HR.out.below hb); replace HB := Lib.hid (below_ext HB.out hb); clear hb cx))
        go_roundw
        case rel =>
          refine ⟨q + 1, by omega, by go_num, Lib.hid (fun j h => ?_), HR, HB⟩
          rcases Nat.lt_or_ge j q with h | h
          · exact HA.out j h
          · obtain rfl : j = q := by omega
            exact HE.out
        case measure => simp [intOf]; omega
      · have hqk : q = k := by
          rcases Nat.lt_trichotomy q k with h | h | h
          · exact absurd (h0.out q h) he
          · exact h
          · exact absurd (HA.out k h) h1.out
        subst hqk
        have PF := Lib.hid (fn_any (rd ys q) true (by simp [he]))
        clear he
        go_wp2_with (first
          | (go_at_call 26; refine (PF.out _).mono ?_; rintro e w2 ⟨rfl, hb⟩; replace HB := Lib.hid (below_ext HB.out hb); clear hb cx))
        go_ret
        exact ⟨rfl, HB.out⟩
    · exact absurd (HA.out k (by omega)) h1.out
theorem Has_walk (A : Option Addr) (c n : Nat) (m : Int) (b : Bool) {w0 : World} (hb : decide (0 ≤ m) = b)
    (PI : Hid (∀ w : World, Hid (Below w0.heap.size w0 w) → Calls Tryd.prog 34 #[.slice A n c, .func (.func 26) #[] #[]] w fun e w' => e = .returned (.int .i64 m) ∧ Below w.heap.size w w')) :
    Calls Tryd.prog 25 #[.slice A n c, .func (.func 26) #[] #[]] w0 fun e w' => e = .returned (.bool b) ∧ Below w0.heap.size w0 w' := by
  subst hb
  have P0 := PI.out w0 (Lib.hid (Below.refl _ _))
  clear PI
  go_enter Tryd.func25, Tryd.ntmps25
  go_wp2_with (first
    | (go_at_call 34; refine P0.mono ?_; rintro e w2 ⟨rfl, hb⟩; have HB := Lib.hid hb; clear hb P0))
  go_ret
  exact ⟨rfl, HB.out⟩
/-- are there bytes that are not 0? -/
theorem Has_any (A : Option Addr) (c n : Nat) (ys : List Int) (hn : n ≤ 64) (w : World) (hr : ReadsInt w .u8 A n ys) :
    Calls Tryd.prog 25 #[.slice A n c, .func (.func 26) #[] #[]] w fun e w' => e = .returned (.bool (!decide (ys = Z n))) ∧ Below w.heap.size w w' := by
  have hl : ys.length = n := hr.1
  by_cases hz : ∀ j : Nat, j < n → rd ys j = 0
  · have he : ys = Z n := by
      apply List.ext_getElem
      · rw [hl, Z_length]
      · intro j h1 h2
        have h3 := hz j (by omega)
        rw [rd, Int.toNat_natCast, List.getD_eq_getElem?_getD, List.getElem?_eq_getElem h1, Option.getD_some] at h3
        rw [h3]; simp [Z]
    rw [show (!decide (ys = Z n)) = false by simp [he]]
    exact Has_walk A c n (-1) false rfl (Lib.hid fun w2 hb => Idx_none A c n ys hn (Lib.hid hz) w2 (Lib.hid (hr.below hb.out)))
  · have hne : ¬ ys = Z n := fun he => hz fun j hj => by rw [he, rd, Int.toNat_natCast]; simp [Z, List.getD_eq_getElem?_getD, hj]
    rw [show (!decide (ys = Z n)) = true by simp [hne]]
    have hex : ∃ k, k < n ∧ rd ys (k : Nat) ≠ 0 := by
      by_cases h : ∃ k, k < n ∧ rd ys (k : Nat) ≠ 0
      · exact h
      · exact absurd (fun j hj => Classical.byContradiction fun h2 => h ⟨j, hj, h2⟩) hz
    obtain ⟨k, hk, h1, h0⟩ : ∃ k, k < n ∧ rd ys (k : Nat) ≠ 0 ∧ ∀ j : Nat, j < k → rd ys j = 0 := by
      obtain ⟨k0, hk0, h10⟩ := hex
      induction k0 using Nat.strongRecOn with
      | _ k0 ih =>
        by_cases h : ∃ j, j < k0 ∧ rd ys (j : Nat) ≠ 0
        · obtain ⟨j, hj, hj2⟩ := h
          exact ih j hj (by omega) hj2
        · exact ⟨k0, hk0, h10, fun j hj => Classical.byContradiction fun h2 => h ⟨j, hj, h2⟩⟩
    exact Has_walk A c n (k : Int) true (by simp) (Lib.hid fun w2 hb => Idx_some A c n ys hn k hk (Lib.hid h0) (Lib.hid h1) w2 (Lib.hid (hr.below hb.out)))
end Go.Proofs.YtdchcggllcgokaaDoor.K

namespace Go.Proofs.YtdchcggllcgokaaDoor.K
open Go.RowKit Go.Proofs.YtdchcggllcgokaaDoor.L Go.Proofs.YtdchcggllcgokaaDoor.U Go.Proofs.YtdchcggllcgokaaDoor.R Go.Proofs.YtdchcggllcgokaaDoor.E Go.Proofs.YtdchcggllcgokaaDoorW.PrintWords
set_option linter.unusedVariables false
set_option linter.unusedSimpArgs false
theorem zero_arr4 (w : World) : (zeroValue 42).run Tryd.prog w = .ok (.agg #[.int .u64 0, .int .u64 0, .int .u64 0, .int .u64 0]) w := by kernel_rfl
theorem info_arr4 : (Tryd.prog.info? 42).map (·.size) = some 4 := by kernel_rfl
theorem info_arr4i : (Tryd.prog.info? 45).map (·.size) = some 4 := by kernel_rfl
theorem sizLoad {ops : Array Oper} {rest : List Oper} {op : Oper} {a : Act} {w : World} {Q : Exit → Act → World → Prop} (ho : op.op = .load 45 (.global 0)) (hs : Siz w) (hw : Region.wanted op (yielded ops a.tmps) = true)
    (h : wpList Tryd.prog ops Q rest (a.put op.dst (.agg #[.int .i64 8, .int .i64 2, .int .i64 8, .int .i64 8])) w) : wpList Tryd.prog ops Q (op :: rest) a w := by
  refine wanted_step hw fun K hK => ?_
  unfold Oper.wp execOp
  have hx : a.eval (.global 0) = .pointer (some ⟨0, 0, none⟩) := rfl
  simp only [ho, hx, Instr.loadAt, Instr.sureAddr, Sem.run_bind, Sem.run_pure, Result.andThen_ok, run_loadVar_mid w 0 0 45 _ _ hs.1 Tryd.underlying45 rfl info_arr4i]
  exact hK _ _ h
theorem ret_mark {fn : Func} {u p e : Tmp} (h : fn.results = #[.tmp u, .cell p 24, .tmp e]) (tmps : Array Value) (w : World) {g : Nat} {cs : Array Value} (hs : cs.size = 4) (hk : Row 24 w g cs) (hp : tmps.getD p undef = .pointer (some ⟨g, 0, none⟩)) {x v : Value} (hx : tmps.getD u undef = x) (hv : tmps.getD e undef = v) :
    (results fn tmps).run Tryd.prog w = .ok (.tuple #[x, .agg cs, v]) w := by
  subst hx hv
  have hp' : tmps[p]?.getD undef = .pointer (some ⟨g, 0, none⟩) := by simpa using hp
  have hr := run_loadVar_row (P := Tryd.prog) w g 24 24 cs (0, 0) _ hk Tryd.underlying24 rfl (by rw [info_mark, hs])
  simp [results, h, hp', asAddr, hr]
abbrev AtD (f o s : Nat) (D : List Int) (v : Nat) : Prop := ∀ (A : Option Addr) (k : Nat), 44 ≤ k → k ≤ 9223372036854775807 → ∀ w : World, ReadsInt w .u8 A 44 D → Calls Tryd.prog f #[.slice A 44 k, .int .i64 (o : Int), .int .i64 (s : Int)] w fun e w' => e = .returned (.tuple #[.int .u64 (v : Int), .int .i64 0]) ∧ Below w.heap.size w w'
theorem getD {D : List Int} (hw : Wf8 D) (hl : D.length = 44) (a s : Nat) (h1 : 1 ≤ s) (h2 : s ≤ 8) (h3 : a + s ≤ 44) (v : Nat) (hv : v = vle (bat D a) s) : AtD 24 a s D v := fun A c hc hc2 w hr => by
  have h := Get_b A c D hw a s (by omega) (by omega) (by omega) hc2 w (by rw [hl]; exact hr)
  rw [gets_ok h1 h2 (by omega), hl, ← hv] at h
  exact h
theorem rgetD {D : List Int} (hw : Wf8 D) (hl : D.length = 44) (a s : Nat) (h1 : 1 ≤ s) (h2 : s ≤ 8) (h3 : a + s ≤ 44) (v : Nat) (hv : v = vle (bat D a) s) : AtD 28 a s D v := fun A c hc hc2 w hr => by
  have h := rGet_b A c D hw a s (by omega) (by omega) (by omega) hc2 w (by rw [hl]; exact hr)
  rw [gets_ok h1 h2 (by omega), hl, ← hv] at h
  exact h
theorem Byts.apart {T : TypeId} {b g : Nat} {W W1 : World} {A : Option Addr} {c : Nat} {ys : List Int} {cs : Array Value} (h : Byts b W A c ys) (hk : Row T W g cs) (hg : W.grownBy W1 (some g)) (hne : 5 ≠ T) : Byts b W1 A c ys :=
  own_other h hg (.inr (Ne.symm (own_ne h hk hne)))
def cq (I R F A : Nat) (q : Nat) : Array Value := match q with | 0 => #[.int .u64 0, .int .u64 0, .int .u64 0, .int .u64 0] | 1 => #[.int .u64 (I : Int), .int .u64 0, .int .u64 0, .int .u64 0] | 2 => #[.int .u64 (I : Int), .int .u64 (R : Int), .int .u64 0, .int .u64 0] | 3 => #[.int .u64 (I : Int), .int .u64 (R : Int), .int .u64 (F : Int), .int .u64 0] | _ => #[.int .u64 (I : Int), .int .u64 (R : Int), .int .u64 (F : Int), .int .u64 (A : Int)]
def oq (q : Nat) : Nat := match q with | 0 => 0 | 1 => 8 | 2 => 10 | 3 => 18 | _ => 26
abbrev GotE (f : Nat) (xs : List Int) (w : World) (r : MQ) : Prop := Calls Tryd.prog f #[blk xs] w fun e w' => e = .returned (.tuple #[.int .u64 (r.1.1 : Int), magg r.1.2.1 (r.1.2.2.1 : Int) r.1.2.2.2.1 r.1.2.2.2.2, .int .i64 r.2]) ∧ Below w.heap.size w w'
set_option maxRecDepth 100000 in
set_option maxHeartbeats 2000000 in
theorem Get_1 (xs : List Int) (HX : Hid (xs.length = 64)) (n : Nat) (k : Int) (hk : (k != 0) = true) (PG : Hid (GetN xs n k)) (w : World) : GotE 14 xs w ((0, 0, 0, 0, 0), k) := by
  have HB := Lib.hid (Below.refl w.heap.size w)
  show Calls _ _ _ _ _
  have tok0 : True := trivial
  have tp0 : True := trivial
  go_enter Tryd.func14, Tryd.ntmps14
  go_wp2_with (first
    | (go_skip)
    | (refine F.blkBox (.tmp 0) rfl rfl HX.out rfl ?_; intro w1 hk hb1 hz1; replace HB := Lib.hid (below_ext HB.out hb1); have K1 := Lib.hid hk; clear hk hb1)
    | (have _t := tok0; refine F.rowAlloc 24 rfl _ zero_mark rfl ?_; intro w2 hk hb2 hz2; replace K1 := Lib.hid (K1.out.below hb2); replace HB := Lib.hid (below_ext HB.out hb2); have K3 := Lib.hid hk; have tok1 : True := trivial; clear hk hb2 _t tok0)
    | (refine F.blkLoad (.tmp 1) rfl K1.out rfl rfl ?_)
    | (have _t := tp0; go_at_call 23; refine (PG.out _).mono ?_; rintro e w3 ⟨⟨A1, c1, l1, rfl⟩, hb3⟩; replace K1 := Lib.hid (K1.out.below hb3); replace K3 := Lib.hid (K3.out.below hb3); replace HB := Lib.hid (below_ext HB.out hb3); have hz3 := hb3.size; clear hb3; have tp1 : True := trivial; clear _t tp0)
    | (refine F.rowStore (cs := #[.int .u64 (0), .int .i64 (0), .int .u64 (0), .int .u64 (0)]) 24 (.tmp 3) (.tmp 21) rfl K3.out rfl rfl info_mark rfl (ones_mark _ _ _ _) rfl ?_; intro w4 hk hg; replace HB := Lib.hid (below_at HB.out hg (by omega) K3.out.lt); replace K1 := Lib.hid (K1.out.grown hg (by omega)); replace K3 := Lib.hid hk; have hz4 := hg.size; clear hk hg))
  exact bodyPost_ret (v := .tuple #[.int .u64 0, .agg #[.int .u64 0, .int .i64 0, .int .u64 0, .int .u64 0], .int .i64 k]) (ret_mark rfl _ _ rfl K3.out rfl rfl rfl) rfl ⟨rfl, HB.out⟩
set_option maxRecDepth 100000 in
set_option maxHeartbeats 2000000 in
theorem Get_2 (xs : List Int) (HX : Hid (xs.length = 64)) (D : List Int) (HD : Hid (D.length = 44)) (n iv rv fv av : Nat) (nl : n < 18446744073709551616) (Il : iv < 18446744073709551616) (Rl : rv < 65536) (Fl : fv < 18446744073709551616) (Al : av < 18446744073709551616) (h1 : 4611686018427387904 < n)
    (PG : Hid (∀ w : World, Calls Tryd.prog 23 #[blk xs] w fun e w' => (∃ A k, e = .returned (.tuple #[.int .u64 (n : Int), .slice A 44 k, .int .i64 0]) ∧ Byts w.heap.size w' A k D) ∧ Below w.heap.size w w'))
    (P0 : Hid (AtD 24 0 8 D iv)) (P1 : Hid (AtD 24 8 2 D rv)) (P2 : Hid (AtD 24 10 8 D fv)) (P3 : Hid (AtD 24 18 8 D av))
     (w : World) (SZ : Hid (Siz w)) : GotE 14 xs w ((0, 0, 0, 0, 0), 5) := by
  have HB := Lib.hid (Below.refl w.heap.size w)
  show Calls _ _ _ _ _
  have g3 : decide (4611686018427387904 < n) = true := by simp; omega
  have g4 : decide ((4611686018427387904 : Int) < (n : Int)) = true := by simp; omega
  have tok0 : True := trivial
  have tp0 : True := trivial
  go_enter Tryd.func14, Tryd.ntmps14
  go_wp2_with (first
    | (go_skip)
    | (refine sizLoad rfl (SZ.out.below HB.out) rfl ?_)
    | (refine F.blkBox (.tmp 0) rfl rfl HX.out rfl ?_; intro w1 hk hb1 hz1; replace HB := Lib.hid (below_ext HB.out hb1); have K1 := Lib.hid hk; clear hk hb1)
    | (have _t := tok0; refine F.rowAlloc 24 rfl _ zero_mark rfl ?_; intro w2 hk hb2 hz2; replace K1 := Lib.hid (K1.out.below hb2); replace HB := Lib.hid (below_ext HB.out hb2); have K3 := Lib.hid hk; have tok1 : True := trivial; clear hk hb2 _t tok0)
    | (refine F.blkLoad (.tmp 1) rfl K1.out rfl rfl ?_)
    | (have _t := tp0; go_at_call 23; refine (PG.out _).mono ?_; rintro e w3 ⟨⟨A1, c1, rfl, o1⟩, hb3⟩; have O1 := Lib.hid o1; replace K1 := Lib.hid (K1.out.below hb3); replace K3 := Lib.hid (K3.out.below hb3); replace HB := Lib.hid (below_ext HB.out hb3); have hz3 := hb3.size; have c44 : 44 ≤ c1 := (by have h := o1.le; rw [HD.out] at h; exact h); have cm := o1.cap; clear hb3; have tp1 : True := trivial; clear _t tp0)
    | (have _t := tok1; refine F.rowAlloc 42 rfl _ zero_arr4 rfl ?_; intro w4 hk hb4 hz4; replace K1 := Lib.hid (K1.out.below hb4); replace K3 := Lib.hid (K3.out.below hb4); replace O1 := Lib.hid (O1.out.below hb4); replace HB := Lib.hid (below_ext HB.out hb4); have K8 := Lib.hid hk; have tok2 : True := trivial; clear hk hb4 _t tok1))
  replace K8 := Lib.hid (show Row 42 w4 w3.heap.size (cq iv rv fv av 0) from K8.out)
  go_loopw [9, 24] (fun p i wr => ∃ q : Nat, q ≤ 4 ∧ i = .int .i64 (q : Int) ∧ p = .int .i64 (oq q : Int) ∧ Hid (Row 42 wr w3.heap.size (cq iv rv fv av q)) ∧ Hid (Row 24 wr w1.heap.size #[.int .u64 0, .int .i64 0, .int .u64 0, .int .u64 0]) ∧ Hid (Byts w2.heap.size wr A1 c1 D) ∧ Hid (Below w.heap.size w wr)) (fun _ i _ => 4 - (intOf i).toNat)
  case atStart => exact ⟨0, by omega, rfl, rfl, K8, K3, O1, HB⟩
  case round =>
    clear K8 K3 O1 HB
    obtain ⟨q, hq, rfl, rfl, K8, K3, O1, HB⟩ := hrel
    rcases (by omega : q = 0 ∨ q = 1 ∨ q = 2 ∨ q = 3 ∨ q = 4) with rfl | rfl | rfl | rfl | rfl
    · go_wp2_with (first
        | (refine F.aggIndex (i := 0) (n := 4) 45 (.tmp 23) (.tmp 24) rfl rfl rfl Tryd.underlying45 (by decide) agg_int size_int rfl rfl ?_)
        | (go_at_call 24; refine (P0.out _ _ c44 cm _ (by have h := O1.out.reads; rw [HD.out] at h; exact h)).mono ?_; rintro e w11 ⟨rfl, hb⟩; replace K3 := Lib.hid (K3.out.below hb); replace K8 := Lib.hid (K8.out.below hb); replace O1 := Lib.hid (O1.out.below hb); replace HB := Lib.hid (below_ext HB.out hb); have hz11 := hb.size; clear hb)
        | (refine F.rowSet _ (.tmp 36) (.tmp 34) rfl K8.out 0 (show (0 : Nat) < 4 by decide) rfl _ rfl rfl rfl info_u64 rfl ?_; intro w12 hk hg; replace HB := Lib.hid (below_at HB.out hg (by omega) K8.out.lt); replace K3 := Lib.hid (K3.out.grown hg (by omega)); replace O1 := Lib.hid (Byts.apart O1.out K8.out hg (by decide)); replace K8 := Lib.hid (show Row 42 w12 w3.heap.size (cq iv rv fv av 1) from hk); clear hk hg))
      go_roundw
      case rel => exact ⟨1, by omega, rfl, by first | rfl | (simp [oq]; kernel_rfl), K8, K3, O1, HB⟩
      case measure => simp [intOf]
    · go_wp2_with (first
        | (refine F.aggIndex (i := 1) (n := 4) 45 (.tmp 23) (.tmp 24) rfl rfl rfl Tryd.underlying45 (by decide) agg_int size_int rfl rfl ?_)
        | (go_at_call 24; refine (P1.out _ _ c44 cm _ (by have h := O1.out.reads; rw [HD.out] at h; exact h)).mono ?_; rintro e w11 ⟨rfl, hb⟩; replace K3 := Lib.hid (K3.out.below hb); replace K8 := Lib.hid (K8.out.below hb); replace O1 := Lib.hid (O1.out.below hb); replace HB := Lib.hid (below_ext HB.out hb); have hz11 := hb.size; clear hb)
        | (refine F.rowSet _ (.tmp 36) (.tmp 34) rfl K8.out 1 (show (1 : Nat) < 4 by decide) rfl _ rfl rfl rfl info_u64 rfl ?_; intro w12 hk hg; replace HB := Lib.hid (below_at HB.out hg (by omega) K8.out.lt); replace K3 := Lib.hid (K3.out.grown hg (by omega)); replace O1 := Lib.hid (Byts.apart O1.out K8.out hg (by decide)); replace K8 := Lib.hid (show Row 42 w12 w3.heap.size (cq iv rv fv av 2) from hk); clear hk hg))
      go_roundw
      case rel => exact ⟨2, by omega, rfl, by first | rfl | (simp [oq]; kernel_rfl), K8, K3, O1, HB⟩
      case measure => simp [intOf]
    · go_wp2_with (first
        | (refine F.aggIndex (i := 2) (n := 4) 45 (.tmp 23) (.tmp 24) rfl rfl rfl Tryd.underlying45 (by decide) agg_int size_int rfl rfl ?_)
        | (go_at_call 24; refine (P2.out _ _ c44 cm _ (by have h := O1.out.reads; rw [HD.out] at h; exact h)).mono ?_; rintro e w11 ⟨rfl, hb⟩; replace K3 := Lib.hid (K3.out.below hb); replace K8 := Lib.hid (K8.out.below hb); replace O1 := Lib.hid (O1.out.below hb); replace HB := Lib.hid (below_ext HB.out hb); have hz11 := hb.size; clear hb)
        | (refine F.rowSet _ (.tmp 36) (.tmp 34) rfl K8.out 2 (show (2 : Nat) < 4 by decide) rfl _ rfl rfl rfl info_u64 rfl ?_; intro w12 hk hg; replace HB := Lib.hid (below_at HB.out hg (by omega) K8.out.lt); replace K3 := Lib.hid (K3.out.grown hg (by omega)); replace O1 := Lib.hid (Byts.apart O1.out K8.out hg (by decide)); replace K8 := Lib.hid (show Row 42 w12 w3.heap.size (cq iv rv fv av 3) from hk); clear hk hg))
      go_roundw
      case rel => exact ⟨3, by omega, rfl, by first | rfl | (simp [oq]; kernel_rfl), K8, K3, O1, HB⟩
      case measure => simp [intOf]
    · go_wp2_with (first
        | (refine F.aggIndex (i := 3) (n := 4) 45 (.tmp 23) (.tmp 24) rfl rfl rfl Tryd.underlying45 (by decide) agg_int size_int rfl rfl ?_)
        | (go_at_call 24; refine (P3.out _ _ c44 cm _ (by have h := O1.out.reads; rw [HD.out] at h; exact h)).mono ?_; rintro e w11 ⟨rfl, hb⟩; replace K3 := Lib.hid (K3.out.below hb); replace K8 := Lib.hid (K8.out.below hb); replace O1 := Lib.hid (O1.out.below hb); replace HB := Lib.hid (below_ext HB.out hb); have hz11 := hb.size; clear hb)
        | (refine F.rowSet _ (.tmp 36) (.tmp 34) rfl K8.out 3 (show (3 : Nat) < 4 by decide) rfl _ rfl rfl rfl info_u64 rfl ?_; intro w12 hk hg; replace HB := Lib.hid (below_at HB.out hg (by omega) K8.out.lt); replace K3 := Lib.hid (K3.out.grown hg (by omega)); replace O1 := Lib.hid (Byts.apart O1.out K8.out hg (by decide)); replace K8 := Lib.hid (show Row 42 w12 w3.heap.size (cq iv rv fv av 4) from hk); clear hk hg))
      go_roundw
      case rel => exact ⟨4, by omega, rfl, by first | rfl | (simp [oq]; kernel_rfl), K8, K3, O1, HB⟩
      case measure => simp [intOf]
    · have K8 := Lib.hid (show Row 42 wr w3.heap.size #[.int .u64 (iv : Int), .int .u64 (rv : Int), .int .u64 (fv : Int), .int .u64 (av : Int)] from K8.out)
      have tk0 : True := trivial
      have lz1 := K3.out.lt
      have lz2 := HB.out.size
      have lz8 := K8.out.lt
      clear P0 P1 P2 P3 PG
      go_wp2_with (first
        | (go_skip)
        | (refine F.rowCell _ (.tmp 41) rfl (K8.out.cell (o := 0) rfl) rfl agg_u64 rfl ?_)
        | (refine F.rowCell _ (.tmp 43) rfl (K8.out.cell (o := 1) rfl) rfl agg_u64 rfl ?_)
        | (refine F.rowCell _ (.tmp 46) rfl (K8.out.cell (o := 2) rfl) rfl agg_u64 rfl ?_)
        | (refine F.rowCell _ (.tmp 48) rfl (K8.out.cell (o := 3) rfl) rfl agg_u64 rfl ?_)
        | (have _t := tk0; refine F.rowAlloc 24 rfl _ zero_mark rfl ?_; intro w21 hk hb hz21; replace K3 := Lib.hid (K3.out.below hb); replace O1 := Lib.hid (O1.out.below hb); replace HB := Lib.hid (below_ext HB.out hb); have K12 := Lib.hid hk; clear hk hb _t tk0)
        | (refine F.rowStore (cs := #[.int .u64 (iv : Int), .int .i64 (rv : Int), .int .u64 (fv : Int), .int .u64 (av : Int)]) 24 (.tmp 12) (.tmp 50) rfl K12.out rfl rfl info_mark rfl (ones_mark _ _ _ _) rfl ?_; intro w22 hk hg; replace HB := Lib.hid (below_at HB.out hg (by omega) K12.out.lt); replace K3 := Lib.hid (K3.out.grown hg (by omega)); replace O1 := Lib.hid (Byts.apart O1.out K12.out hg (by decide)); replace K12 := Lib.hid hk; have hz22 := hg.size; clear hk hg)
        | (refine F.rowLoad 24 (.tmp 12) rfl K12.out rfl Tryd.underlying24 rfl info_mark rfl ?_)
        | (refine F.rowStore (cs := #[.int .u64 0, .int .i64 0, .int .u64 0, .int .u64 0]) 24 (.tmp 3) (.tmp 64) rfl K3.out rfl rfl info_mark rfl (ones_mark _ _ _ _) rfl ?_; intro w25 hk hg; replace HB := Lib.hid (below_at HB.out hg (by omega) K3.out.lt); replace K3 := Lib.hid hk; clear hk hg))
      all_goals exact bodyPost_ret (v := .tuple #[.int .u64 0, .agg #[.int .u64 0, .int .i64 0, .int .u64 0, .int .u64 0], .int .i64 5]) (ret_mark rfl _ _ rfl K3.out rfl rfl rfl) rfl ⟨rfl, HB.out⟩
set_option maxRecDepth 100000 in
set_option maxHeartbeats 2000000 in
theorem Get_3 (xs : List Int) (HX : Hid (xs.length = 64)) (D : List Int) (HD : Hid (D.length = 44)) (n iv rv fv av : Nat) (nl : n < 18446744073709551616) (Il : iv < 18446744073709551616) (Rl : rv < 65536) (Fl : fv < 18446744073709551616) (Al : av < 18446744073709551616) (h1 : n ≤ 4611686018427387904)
    (PG : Hid (∀ w : World, Calls Tryd.prog 23 #[blk xs] w fun e w' => (∃ A k, e = .returned (.tuple #[.int .u64 (n : Int), .slice A 44 k, .int .i64 0]) ∧ Byts w.heap.size w' A k D) ∧ Below w.heap.size w w'))
    (P0 : Hid (AtD 24 0 8 D iv)) (P1 : Hid (AtD 24 8 2 D rv)) (P2 : Hid (AtD 24 10 8 D fv)) (P3 : Hid (AtD 24 18 8 D av))
    (PM : Hid (∀ w : World, Calls Tryd.prog 9 #[magg iv (rv : Int) fv av] w fun e w' => e = .returned (.bool false) ∧ Below w.heap.size w w')) (w : World) (SZ : Hid (Siz w)) : GotE 14 xs w ((0, 0, 0, 0, 0), 5) := by
  have HB := Lib.hid (Below.refl w.heap.size w)
  show Calls _ _ _ _ _
  have g3 : decide (4611686018427387904 < n) = false := by simp; omega
  have g4 : decide ((4611686018427387904 : Int) < (n : Int)) = false := by simp; omega
  have tok0 : True := trivial
  have tp0 : True := trivial
  go_enter Tryd.func14, Tryd.ntmps14
  go_wp2_with (first
    | (go_skip)
    | (refine sizLoad rfl (SZ.out.below HB.out) rfl ?_)
    | (refine F.blkBox (.tmp 0) rfl rfl HX.out rfl ?_; intro w1 hk hb1 hz1; replace HB := Lib.hid (below_ext HB.out hb1); have K1 := Lib.hid hk; clear hk hb1)
    | (have _t := tok0; refine F.rowAlloc 24 rfl _ zero_mark rfl ?_; intro w2 hk hb2 hz2; replace K1 := Lib.hid (K1.out.below hb2); replace HB := Lib.hid (below_ext HB.out hb2); have K3 := Lib.hid hk; have tok1 : True := trivial; clear hk hb2 _t tok0)
    | (refine F.blkLoad (.tmp 1) rfl K1.out rfl rfl ?_)
    | (have _t := tp0; go_at_call 23; refine (PG.out _).mono ?_; rintro e w3 ⟨⟨A1, c1, rfl, o1⟩, hb3⟩; have O1 := Lib.hid o1; replace K1 := Lib.hid (K1.out.below hb3); replace K3 := Lib.hid (K3.out.below hb3); replace HB := Lib.hid (below_ext HB.out hb3); have hz3 := hb3.size; have c44 : 44 ≤ c1 := (by have h := o1.le; rw [HD.out] at h; exact h); have cm := o1.cap; clear hb3; have tp1 : True := trivial; clear _t tp0)
    | (have _t := tok1; refine F.rowAlloc 42 rfl _ zero_arr4 rfl ?_; intro w4 hk hb4 hz4; replace K1 := Lib.hid (K1.out.below hb4); replace K3 := Lib.hid (K3.out.below hb4); replace O1 := Lib.hid (O1.out.below hb4); replace HB := Lib.hid (below_ext HB.out hb4); have K8 := Lib.hid hk; have tok2 : True := trivial; clear hk hb4 _t tok1))
  replace K8 := Lib.hid (show Row 42 w4 w3.heap.size (cq iv rv fv av 0) from K8.out)
  go_loopw [9, 24] (fun p i wr => ∃ q : Nat, q ≤ 4 ∧ i = .int .i64 (q : Int) ∧ p = .int .i64 (oq q : Int) ∧ Hid (Row 42 wr w3.heap.size (cq iv rv fv av q)) ∧ Hid (Row 24 wr w1.heap.size #[.int .u64 0, .int .i64 0, .int .u64 0, .int .u64 0]) ∧ Hid (Byts w2.heap.size wr A1 c1 D) ∧ Hid (Below w.heap.size w wr)) (fun _ i _ => 4 - (intOf i).toNat)
  case atStart => exact ⟨0, by omega, rfl, rfl, K8, K3, O1, HB⟩
  case round =>
    clear K8 K3 O1 HB
    obtain ⟨q, hq, rfl, rfl, K8, K3, O1, HB⟩ := hrel
    rcases (by omega : q = 0 ∨ q = 1 ∨ q = 2 ∨ q = 3 ∨ q = 4) with rfl | rfl | rfl | rfl | rfl
    · go_wp2_with (first
        | (refine F.aggIndex (i := 0) (n := 4) 45 (.tmp 23) (.tmp 24) rfl rfl rfl Tryd.underlying45 (by decide) agg_int size_int rfl rfl ?_)
        | (go_at_call 24; refine (P0.out _ _ c44 cm _ (by have h := O1.out.reads; rw [HD.out] at h; exact h)).mono ?_; rintro e w11 ⟨rfl, hb⟩; replace K3 := Lib.hid (K3.out.below hb); replace K8 := Lib.hid (K8.out.below hb); replace O1 := Lib.hid (O1.out.below hb); replace HB := Lib.hid (below_ext HB.out hb); have hz11 := hb.size; clear hb)
        | (refine F.rowSet _ (.tmp 36) (.tmp 34) rfl K8.out 0 (show (0 : Nat) < 4 by decide) rfl _ rfl rfl rfl info_u64 rfl ?_; intro w12 hk hg; replace HB := Lib.hid (below_at HB.out hg (by omega) K8.out.lt); replace K3 := Lib.hid (K3.out.grown hg (by omega)); replace O1 := Lib.hid (Byts.apart O1.out K8.out hg (by decide)); replace K8 := Lib.hid (show Row 42 w12 w3.heap.size (cq iv rv fv av 1) from hk); clear hk hg))
      go_roundw
      case rel => exact ⟨1, by omega, rfl, by first | rfl | (simp [oq]; kernel_rfl), K8, K3, O1, HB⟩
      case measure => simp [intOf]
    · go_wp2_with (first
        | (refine F.aggIndex (i := 1) (n := 4) 45 (.tmp 23) (.tmp 24) rfl rfl rfl Tryd.underlying45 (by decide) agg_int size_int rfl rfl ?_)
        | (go_at_call 24; refine (P1.out _ _ c44 cm _ (by have h := O1.out.reads; rw [HD.out] at h; exact h)).mono ?_; rintro e w11 ⟨rfl, hb⟩; replace K3 := Lib.hid (K3.out.below hb); replace K8 := Lib.hid (K8.out.below hb); replace O1 := Lib.hid (O1.out.below hb); replace HB := Lib.hid (below_ext HB.out hb); have hz11 := hb.size; clear hb)
        | (refine F.rowSet _ (.tmp 36) (.tmp 34) rfl K8.out 1 (show (1 : Nat) < 4 by decide) rfl _ rfl rfl rfl info_u64 rfl ?_; intro w12 hk hg; replace HB := Lib.hid (below_at HB.out hg (by omega) K8.out.lt); replace K3 := Lib.hid (K3.out.grown hg (by omega)); replace O1 := Lib.hid (Byts.apart O1.out K8.out hg (by decide)); replace K8 := Lib.hid (show Row 42 w12 w3.heap.size (cq iv rv fv av 2) from hk); clear hk hg))
      go_roundw
      case rel => exact ⟨2, by omega, rfl, by first | rfl | (simp [oq]; kernel_rfl), K8, K3, O1, HB⟩
      case measure => simp [intOf]
    · go_wp2_with (first
        | (refine F.aggIndex (i := 2) (n := 4) 45 (.tmp 23) (.tmp 24) rfl rfl rfl Tryd.underlying45 (by decide) agg_int size_int rfl rfl ?_)
        | (go_at_call 24; refine (P2.out _ _ c44 cm _ (by have h := O1.out.reads; rw [HD.out] at h; exact h)).mono ?_; rintro e w11 ⟨rfl, hb⟩; replace K3 := Lib.hid (K3.out.below hb); replace K8 := Lib.hid (K8.out.below hb); replace O1 := Lib.hid (O1.out.below hb); replace HB := Lib.hid (below_ext HB.out hb); have hz11 := hb.size; clear hb)
        | (refine F.rowSet _ (.tmp 36) (.tmp 34) rfl K8.out 2 (show (2 : Nat) < 4 by decide) rfl _ rfl rfl rfl info_u64 rfl ?_; intro w12 hk hg; replace HB := Lib.hid (below_at HB.out hg (by omega) K8.out.lt); replace K3 := Lib.hid (K3.out.grown hg (by omega)); replace O1 := Lib.hid (Byts.apart O1.out K8.out hg (by decide)); replace K8 := Lib.hid (show Row 42 w12 w3.heap.size (cq iv rv fv av 3) from hk); clear hk hg))
      go_roundw
      case rel => exact ⟨3, by omega, rfl, by first | rfl | (simp [oq]; kernel_rfl), K8, K3, O1, HB⟩
      case measure => simp [intOf]
    · go_wp2_with (first
        | (refine F.aggIndex (i := 3) (n := 4) 45 (.tmp 23) (.tmp 24) rfl rfl rfl Tryd.underlying45 (by decide) agg_int size_int rfl rfl ?_)
        | (go_at_call 24; refine (P3.out _ _ c44 cm _ (by have h := O1.out.reads; rw [HD.out] at h; exact h)).mono ?_; rintro e w11 ⟨rfl, hb⟩; replace K3 := Lib.hid (K3.out.below hb); replace K8 := Lib.hid (K8.out.below hb); replace O1 := Lib.hid (O1.out.below hb); replace HB := Lib.hid (below_ext HB.out hb); have hz11 := hb.size; clear hb)
        | (refine F.rowSet _ (.tmp 36) (.tmp 34) rfl K8.out 3 (show (3 : Nat) < 4 by decide) rfl _ rfl rfl rfl info_u64 rfl ?_; intro w12 hk hg; replace HB := Lib.hid (below_at HB.out hg (by omega) K8.out.lt); replace K3 := Lib.hid (K3.out.grown hg (by omega)); replace O1 := Lib.hid (Byts.apart O1.out K8.out hg (by decide)); replace K8 := Lib.hid (show Row 42 w12 w3.heap.size (cq iv rv fv av 4) from hk); clear hk hg))
      go_roundw
      case rel => exact ⟨4, by omega, rfl, by first | rfl | (simp [oq]; kernel_rfl), K8, K3, O1, HB⟩
      case measure => simp [intOf]
    · have K8 := Lib.hid (show Row 42 wr w3.heap.size #[.int .u64 (iv : Int), .int .u64 (rv : Int), .int .u64 (fv : Int), .int .u64 (av : Int)] from K8.out)
      have tk0 : True := trivial
      have lz1 := K3.out.lt
      have lz2 := HB.out.size
      have lz8 := K8.out.lt
      clear P0 P1 P2 P3 PG
      go_wp2_with (first
        | (go_skip)
        | (refine F.rowCell _ (.tmp 41) rfl (K8.out.cell (o := 0) rfl) rfl agg_u64 rfl ?_)
        | (refine F.rowCell _ (.tmp 43) rfl (K8.out.cell (o := 1) rfl) rfl agg_u64 rfl ?_)
        | (refine F.rowCell _ (.tmp 46) rfl (K8.out.cell (o := 2) rfl) rfl agg_u64 rfl ?_)
        | (refine F.rowCell _ (.tmp 48) rfl (K8.out.cell (o := 3) rfl) rfl agg_u64 rfl ?_)
        | (have _t := tk0; refine F.rowAlloc 24 rfl _ zero_mark rfl ?_; intro w21 hk hb hz21; replace K3 := Lib.hid (K3.out.below hb); replace O1 := Lib.hid (O1.out.below hb); replace HB := Lib.hid (below_ext HB.out hb); have K12 := Lib.hid hk; clear hk hb _t tk0)
        | (refine F.rowStore (cs := #[.int .u64 (iv : Int), .int .i64 (rv : Int), .int .u64 (fv : Int), .int .u64 (av : Int)]) 24 (.tmp 12) (.tmp 50) rfl K12.out rfl rfl info_mark rfl (ones_mark _ _ _ _) rfl ?_; intro w22 hk hg; replace HB := Lib.hid (below_at HB.out hg (by omega) K12.out.lt); replace K3 := Lib.hid (K3.out.grown hg (by omega)); replace O1 := Lib.hid (Byts.apart O1.out K12.out hg (by decide)); replace K12 := Lib.hid hk; have hz22 := hg.size; clear hk hg)
        | (refine F.rowLoad 24 (.tmp 12) rfl K12.out rfl Tryd.underlying24 rfl info_mark rfl ?_)
        | (go_at_call 9; refine (PM.out _).mono ?_; rintro e w23 ⟨rfl, hb⟩; replace K3 := Lib.hid (K3.out.below hb); replace K12 := Lib.hid (K12.out.below hb); replace O1 := Lib.hid (O1.out.below hb); replace HB := Lib.hid (below_ext HB.out hb); have hz23 := hb.size; clear hb)
        | (refine F.rowStore (cs := #[.int .u64 0, .int .i64 0, .int .u64 0, .int .u64 0]) 24 (.tmp 3) (.tmp 64) rfl K3.out rfl rfl info_mark rfl (ones_mark _ _ _ _) rfl ?_; intro w25 hk hg; replace HB := Lib.hid (below_at HB.out hg (by omega) K3.out.lt); replace K3 := Lib.hid hk; clear hk hg))
      all_goals exact bodyPost_ret (v := .tuple #[.int .u64 0, .agg #[.int .u64 0, .int .i64 0, .int .u64 0, .int .u64 0], .int .i64 5]) (ret_mark rfl _ _ rfl K3.out rfl rfl rfl) rfl ⟨rfl, HB.out⟩
set_option maxRecDepth 100000 in
set_option maxHeartbeats 2000000 in
theorem Get_4 (xs : List Int) (HX : Hid (xs.length = 64)) (D : List Int) (HD : Hid (D.length = 44)) (n iv rv fv av : Nat) (nl : n < 18446744073709551616) (Il : iv < 18446744073709551616) (Rl : rv < 65536) (Fl : fv < 18446744073709551616) (Al : av < 18446744073709551616) (h1 : n ≤ 4611686018427387904) (hz : ¬ D.drop 26 = Z 18)
    (PG : Hid (∀ w : World, Calls Tryd.prog 23 #[blk xs] w fun e w' => (∃ A k, e = .returned (.tuple #[.int .u64 (n : Int), .slice A 44 k, .int .i64 0]) ∧ Byts w.heap.size w' A k D) ∧ Below w.heap.size w w'))
    (P0 : Hid (AtD 24 0 8 D iv)) (P1 : Hid (AtD 24 8 2 D rv)) (P2 : Hid (AtD 24 10 8 D fv)) (P3 : Hid (AtD 24 18 8 D av))
    (PM : Hid (∀ w : World, Calls Tryd.prog 9 #[magg iv (rv : Int) fv av] w fun e w' => e = .returned (.bool true) ∧ Below w.heap.size w w')) (w : World) (SZ : Hid (Siz w)) : GotE 14 xs w ((0, 0, 0, 0, 0), 5) := by
  have HB := Lib.hid (Below.refl w.heap.size w)
  show Calls _ _ _ _ _
  have g3 : decide (4611686018427387904 < n) = false := by simp; omega
  have g4 : decide ((4611686018427387904 : Int) < (n : Int)) = false := by simp; omega
  have tok0 : True := trivial
  have tp0 : True := trivial
  go_enter Tryd.func14, Tryd.ntmps14
  go_wp2_with (first
    | (go_skip)
    | (refine sizLoad rfl (SZ.out.below HB.out) rfl ?_)
    | (refine F.blkBox (.tmp 0) rfl rfl HX.out rfl ?_; intro w1 hk hb1 hz1; replace HB := Lib.hid (below_ext HB.out hb1); have K1 := Lib.hid hk; clear hk hb1)
    | (have _t := tok0; refine F.rowAlloc 24 rfl _ zero_mark rfl ?_; intro w2 hk hb2 hz2; replace K1 := Lib.hid (K1.out.below hb2); replace HB := Lib.hid (below_ext HB.out hb2); have K3 := Lib.hid hk; have tok1 : True := trivial; clear hk hb2 _t tok0)
    | (refine F.blkLoad (.tmp 1) rfl K1.out rfl rfl ?_)
    | (have _t := tp0; go_at_call 23; refine (PG.out _).mono ?_; rintro e w3 ⟨⟨A1, c1, rfl, o1⟩, hb3⟩; have O1 := Lib.hid o1; replace K1 := Lib.hid (K1.out.below hb3); replace K3 := Lib.hid (K3.out.below hb3); replace HB := Lib.hid (below_ext HB.out hb3); have hz3 := hb3.size; have c44 : 44 ≤ c1 := (by have h := o1.le; rw [HD.out] at h; exact h); have cm := o1.cap; clear hb3; have tp1 : True := trivial; clear _t tp0)
    | (have _t := tok1; refine F.rowAlloc 42 rfl _ zero_arr4 rfl ?_; intro w4 hk hb4 hz4; replace K1 := Lib.hid (K1.out.below hb4); replace K3 := Lib.hid (K3.out.below hb4); replace O1 := Lib.hid (O1.out.below hb4); replace HB := Lib.hid (below_ext HB.out hb4); have K8 := Lib.hid hk; have tok2 : True := trivial; clear hk hb4 _t tok1))
  replace K8 := Lib.hid (show Row 42 w4 w3.heap.size (cq iv rv fv av 0) from K8.out)
  go_loopw [9, 24] (fun p i wr => ∃ q : Nat, q ≤ 4 ∧ i = .int .i64 (q : Int) ∧ p = .int .i64 (oq q : Int) ∧ Hid (Row 42 wr w3.heap.size (cq iv rv fv av q)) ∧ Hid (Row 24 wr w1.heap.size #[.int .u64 0, .int .i64 0, .int .u64 0, .int .u64 0]) ∧ Hid (Byts w2.heap.size wr A1 c1 D) ∧ Hid (Below w.heap.size w wr)) (fun _ i _ => 4 - (intOf i).toNat)
  case atStart => exact ⟨0, by omega, rfl, rfl, K8, K3, O1, HB⟩
  case round =>
    clear K8 K3 O1 HB
    obtain ⟨q, hq, rfl, rfl, K8, K3, O1, HB⟩ := hrel
    rcases (by omega : q = 0 ∨ q = 1 ∨ q = 2 ∨ q = 3 ∨ q = 4) with rfl | rfl | rfl | rfl | rfl
    · go_wp2_with (first
        | (refine F.aggIndex (i := 0) (n := 4) 45 (.tmp 23) (.tmp 24) rfl rfl rfl Tryd.underlying45 (by decide) agg_int size_int rfl rfl ?_)
        | (go_at_call 24; refine (P0.out _ _ c44 cm _ (by have h := O1.out.reads; rw [HD.out] at h; exact h)).mono ?_; rintro e w11 ⟨rfl, hb⟩; replace K3 := Lib.hid (K3.out.below hb); replace K8 := Lib.hid (K8.out.below hb); replace O1 := Lib.hid (O1.out.below hb); replace HB := Lib.hid (below_ext HB.out hb); have hz11 := hb.size; clear hb)
        | (refine F.rowSet _ (.tmp 36) (.tmp 34) rfl K8.out 0 (show (0 : Nat) < 4 by decide) rfl _ rfl rfl rfl info_u64 rfl ?_; intro w12 hk hg; replace HB := Lib.hid (below_at HB.out hg (by omega) K8.out.lt); replace K3 := Lib.hid (K3.out.grown hg (by omega)); replace O1 := Lib.hid (Byts.apart O1.out K8.out hg (by decide)); replace K8 := Lib.hid (show Row 42 w12 w3.heap.size (cq iv rv fv av 1) from hk); clear hk hg))
      go_roundw
      case rel => exact ⟨1, by omega, rfl, by first | rfl | (simp [oq]; kernel_rfl), K8, K3, O1, HB⟩
      case measure => simp [intOf]
    · go_wp2_with (first
        | (refine F.aggIndex (i := 1) (n := 4) 45 (.tmp 23) (.tmp 24) rfl rfl rfl Tryd.underlying45 (by decide) agg_int size_int rfl rfl ?_)
        | (go_at_call 24; refine (P1.out _ _ c44 cm _ (by have h := O1.out.reads; rw [HD.out] at h; exact h)).mono ?_; rintro e w11 ⟨rfl, hb⟩; replace K3 := Lib.hid (K3.out.below hb); replace K8 := Lib.hid (K8.out.below hb); replace O1 := Lib.hid (O1.out.below hb); replace HB := Lib.hid (below_ext HB.out hb); have hz11 := hb.size; clear hb)
        | (refine F.rowSet _ (.tmp 36) (.tmp 34) rfl K8.out 1 (show (1 : Nat) < 4 by decide) rfl _ rfl rfl rfl info_u64 rfl ?_; intro w12 hk hg; replace HB := Lib.hid (below_at HB.out hg (by omega) K8.out.lt); replace K3 := Lib.hid (K3.out.grown hg (by omega)); replace O1 := Lib.hid (Byts.apart O1.out K8.out hg (by decide)); replace K8 := Lib.hid (show Row 42 w12 w3.heap.size (cq iv rv fv av 2) from hk); clear hk hg))
      go_roundw
      case rel => exact ⟨2, by omega, rfl, by first | rfl | (simp [oq]; kernel_rfl), K8, K3, O1, HB⟩
      case measure => simp [intOf]
    · go_wp2_with (first
        | (refine F.aggIndex (i := 2) (n := 4) 45 (.tmp 23) (.tmp 24) rfl rfl rfl Tryd.underlying45 (by decide) agg_int size_int rfl rfl ?_)
        | (go_at_call 24; refine (P2.out _ _ c44 cm _ (by have h := O1.out.reads; rw [HD.out] at h; exact h)).mono ?_; rintro e w11 ⟨rfl, hb⟩; replace K3 := Lib.hid (K3.out.below hb); replace K8 := Lib.hid (K8.out.below hb); replace O1 := Lib.hid (O1.out.below hb); replace HB := Lib.hid (below_ext HB.out hb); have hz11 := hb.size; clear hb)
        | (refine F.rowSet _ (.tmp 36) (.tmp 34) rfl K8.out 2 (show (2 : Nat) < 4 by decide) rfl _ rfl rfl rfl info_u64 rfl ?_; intro w12 hk hg; replace HB := Lib.hid (below_at HB.out hg (by omega) K8.out.lt); replace K3 := Lib.hid (K3.out.grown hg (by omega)); replace O1 := Lib.hid (Byts.apart O1.out K8.out hg (by decide)); replace K8 := Lib.hid (show Row 42 w12 w3.heap.size (cq iv rv fv av 3) from hk); clear hk hg))
      go_roundw
      case rel => exact ⟨3, by omega, rfl, by first | rfl | (simp [oq]; kernel_rfl), K8, K3, O1, HB⟩
      case measure => simp [intOf]
    · go_wp2_with (first
        | (refine F.aggIndex (i := 3) (n := 4) 45 (.tmp 23) (.tmp 24) rfl rfl rfl Tryd.underlying45 (by decide) agg_int size_int rfl rfl ?_)
        | (go_at_call 24; refine (P3.out _ _ c44 cm _ (by have h := O1.out.reads; rw [HD.out] at h; exact h)).mono ?_; rintro e w11 ⟨rfl, hb⟩; replace K3 := Lib.hid (K3.out.below hb); replace K8 := Lib.hid (K8.out.below hb); replace O1 := Lib.hid (O1.out.below hb); replace HB := Lib.hid (below_ext HB.out hb); have hz11 := hb.size; clear hb)
        | (refine F.rowSet _ (.tmp 36) (.tmp 34) rfl K8.out 3 (show (3 : Nat) < 4 by decide) rfl _ rfl rfl rfl info_u64 rfl ?_; intro w12 hk hg; replace HB := Lib.hid (below_at HB.out hg (by omega) K8.out.lt); replace K3 := Lib.hid (K3.out.grown hg (by omega)); replace O1 := Lib.hid (Byts.apart O1.out K8.out hg (by decide)); replace K8 := Lib.hid (show Row 42 w12 w3.heap.size (cq iv rv fv av 4) from hk); clear hk hg))
      go_roundw
      case rel => exact ⟨4, by omega, rfl, by first | rfl | (simp [oq]; kernel_rfl), K8, K3, O1, HB⟩
      case measure => simp [intOf]
    · have K8 := Lib.hid (show Row 42 wr w3.heap.size #[.int .u64 (iv : Int), .int .u64 (rv : Int), .int .u64 (fv : Int), .int .u64 (av : Int)] from K8.out)
      have tk0 : True := trivial
      have lz1 := K3.out.lt
      have lz2 := HB.out.size
      have lz8 := K8.out.lt
      have HCF : ∀ x, Byts w2.heap.size x A1 c1 D → ReadsInt x .u8 (if c1 = 26 then A1 else A1.map (·.add 26)) (44 - 26) (D.drop 26) := fun x ho => by
        have h := ho.reads
        rw [HD.out] at h
        exact h.drop_ 26 (by decide) c44
      have hzd : (!decide (D.drop 26 = Z (44 - 26))) = true := by simp [hz]
      clear P0 P1 P2 P3 PG
      go_wp2_with (first
        | (go_skip)
        | (refine F.rowCell _ (.tmp 41) rfl (K8.out.cell (o := 0) rfl) rfl agg_u64 rfl ?_)
        | (refine F.rowCell _ (.tmp 43) rfl (K8.out.cell (o := 1) rfl) rfl agg_u64 rfl ?_)
        | (refine F.rowCell _ (.tmp 46) rfl (K8.out.cell (o := 2) rfl) rfl agg_u64 rfl ?_)
        | (refine F.rowCell _ (.tmp 48) rfl (K8.out.cell (o := 3) rfl) rfl agg_u64 rfl ?_)
        | (have _t := tk0; refine F.rowAlloc 24 rfl _ zero_mark rfl ?_; intro w21 hk hb hz21; replace K3 := Lib.hid (K3.out.below hb); replace O1 := Lib.hid (O1.out.below hb); replace HB := Lib.hid (below_ext HB.out hb); have K12 := Lib.hid hk; clear hk hb _t tk0)
        | (refine F.rowStore (cs := #[.int .u64 (iv : Int), .int .i64 (rv : Int), .int .u64 (fv : Int), .int .u64 (av : Int)]) 24 (.tmp 12) (.tmp 50) rfl K12.out rfl rfl info_mark rfl (ones_mark _ _ _ _) rfl ?_; intro w22 hk hg; replace HB := Lib.hid (below_at HB.out hg (by omega) K12.out.lt); replace K3 := Lib.hid (K3.out.grown hg (by omega)); replace O1 := Lib.hid (Byts.apart O1.out K12.out hg (by decide)); replace K12 := Lib.hid hk; have hz22 := hg.size; clear hk hg)
        | (refine F.rowLoad 24 (.tmp 12) rfl K12.out rfl Tryd.underlying24 rfl info_mark rfl ?_)
        | (go_at_call 9; refine (PM.out _).mono ?_; rintro e w23 ⟨rfl, hb⟩; replace K3 := Lib.hid (K3.out.below hb); replace K12 := Lib.hid (K12.out.below hb); replace O1 := Lib.hid (O1.out.below hb); replace HB := Lib.hid (below_ext HB.out hb); have hz23 := hb.size; clear hb)
        | (go_at_call 25; refine (Has_any _ _ _ _ (by decide) _ (HCF _ O1.out)).mono ?_; rintro e w24 ⟨rfl, hb⟩; replace K3 := Lib.hid (K3.out.below hb); replace K12 := Lib.hid (K12.out.below hb); replace HB := Lib.hid (below_ext HB.out hb); have hz24 := hb.size; clear hb)
        | (refine F.rowStore (cs := #[.int .u64 0, .int .i64 0, .int .u64 0, .int .u64 0]) 24 (.tmp 3) (.tmp 64) rfl K3.out rfl rfl info_mark rfl (ones_mark _ _ _ _) rfl ?_; intro w25 hk hg; replace HB := Lib.hid (below_at HB.out hg (by omega) K3.out.lt); replace K3 := Lib.hid hk; clear hk hg))
      all_goals exact bodyPost_ret (v := .tuple #[.int .u64 0, .agg #[.int .u64 0, .int .i64 0, .int .u64 0, .int .u64 0], .int .i64 5]) (ret_mark rfl _ _ rfl K3.out rfl rfl rfl) rfl ⟨rfl, HB.out⟩
set_option maxRecDepth 100000 in
set_option maxHeartbeats 2000000 in
theorem Get_5 (xs : List Int) (HX : Hid (xs.length = 64)) (D : List Int) (HD : Hid (D.length = 44)) (n iv rv fv av : Nat) (nl : n < 18446744073709551616) (Il : iv < 18446744073709551616) (Rl : rv < 65536) (Fl : fv < 18446744073709551616) (Al : av < 18446744073709551616) (h1 : n ≤ 4611686018427387904) (hz : D.drop 26 = Z 18)
    (PG : Hid (∀ w : World, Calls Tryd.prog 23 #[blk xs] w fun e w' => (∃ A k, e = .returned (.tuple #[.int .u64 (n : Int), .slice A 44 k, .int .i64 0]) ∧ Byts w.heap.size w' A k D) ∧ Below w.heap.size w w'))
    (P0 : Hid (AtD 24 0 8 D iv)) (P1 : Hid (AtD 24 8 2 D rv)) (P2 : Hid (AtD 24 10 8 D fv)) (P3 : Hid (AtD 24 18 8 D av))
    (PM : Hid (∀ w : World, Calls Tryd.prog 9 #[magg iv (rv : Int) fv av] w fun e w' => e = .returned (.bool true) ∧ Below w.heap.size w w')) (w : World) (SZ : Hid (Siz w)) : GotE 14 xs w ((n, iv, rv, fv, av), 0) := by
  have HB := Lib.hid (Below.refl w.heap.size w)
  show Calls _ _ _ _ _
  have g3 : decide (4611686018427387904 < n) = false := by simp; omega
  have g4 : decide ((4611686018427387904 : Int) < (n : Int)) = false := by simp; omega
  have tok0 : True := trivial
  have tp0 : True := trivial
  go_enter Tryd.func14, Tryd.ntmps14
  go_wp2_with (first
    | (go_skip)
    | (refine sizLoad rfl (SZ.out.below HB.out) rfl ?_)
    | (refine F.blkBox (.tmp 0) rfl rfl HX.out rfl ?_; intro w1 hk hb1 hz1; replace HB := Lib.hid (below_ext HB.out hb1); have K1 := Lib.hid hk; clear hk hb1)
    | (have _t := tok0; refine F.rowAlloc 24 rfl _ zero_mark rfl ?_; intro w2 hk hb2 hz2; replace K1 := Lib.hid (K1.out.below hb2); replace HB := Lib.hid (below_ext HB.out hb2); have K3 := Lib.hid hk; have tok1 : True := trivial; clear hk hb2 _t tok0)
    | (refine F.blkLoad (.tmp 1) rfl K1.out rfl rfl ?_)
    | (have _t := tp0; go_at_call 23; refine (PG.out _).mono ?_; rintro e w3 ⟨⟨A1, c1, rfl, o1⟩, hb3⟩; have O1 := Lib.hid o1; replace K1 := Lib.hid (K1.out.below hb3); replace K3 := Lib.hid (K3.out.below hb3); replace HB := Lib.hid (below_ext HB.out hb3); have hz3 := hb3.size; have c44 : 44 ≤ c1 := (by have h := o1.le; rw [HD.out] at h; exact h); have cm := o1.cap; clear hb3; have tp1 : True := trivial; clear _t tp0)
    | (have _t := tok1; refine F.rowAlloc 42 rfl _ zero_arr4 rfl ?_; intro w4 hk hb4 hz4; replace K1 := Lib.hid (K1.out.below hb4); replace K3 := Lib.hid (K3.out.below hb4); replace O1 := Lib.hid (O1.out.below hb4); replace HB := Lib.hid (below_ext HB.out hb4); have K8 := Lib.hid hk; have tok2 : True := trivial; clear hk hb4 _t tok1))
  replace K8 := Lib.hid (show Row 42 w4 w3.heap.size (cq iv rv fv av 0) from K8.out)
  go_loopw [9, 24] (fun p i wr => ∃ q : Nat, q ≤ 4 ∧ i = .int .i64 (q : Int) ∧ p = .int .i64 (oq q : Int) ∧ Hid (Row 42 wr w3.heap.size (cq iv rv fv av q)) ∧ Hid (Row 24 wr w1.heap.size #[.int .u64 0, .int .i64 0, .int .u64 0, .int .u64 0]) ∧ Hid (Byts w2.heap.size wr A1 c1 D) ∧ Hid (Below w.heap.size w wr)) (fun _ i _ => 4 - (intOf i).toNat)
  case atStart => exact ⟨0, by omega, rfl, rfl, K8, K3, O1, HB⟩
  case round =>
    clear K8 K3 O1 HB
    obtain ⟨q, hq, rfl, rfl, K8, K3, O1, HB⟩ := hrel
    rcases (by omega : q = 0 ∨ q = 1 ∨ q = 2 ∨ q = 3 ∨ q = 4) with rfl | rfl | rfl | rfl | rfl
    · go_wp2_with (first
        | (refine F.aggIndex (i := 0) (n := 4) 45 (.tmp 23) (.tmp 24) rfl rfl rfl Tryd.underlying45 (by decide) agg_int size_int rfl rfl ?_)
        | (go_at_call 24; refine (P0.out _ _ c44 cm _ (by have h := O1.out.reads; rw [HD.out] at h; exact h)).mono ?_; rintro e w11 ⟨rfl, hb⟩; replace K3 := Lib.hid (K3.out.below hb); replace K8 := Lib.hid (K8.out.below hb); replace O1 := Lib.hid (O1.out.below hb); replace HB := Lib.hid (below_ext HB.out hb); have hz11 := hb.size; clear hb)
        | (refine F.rowSet _ (.tmp 36) (.tmp 34) rfl K8.out 0 (show (0 : Nat) < 4 by decide) rfl _ rfl rfl rfl info_u64 rfl ?_; intro w12 hk hg; replace HB := Lib.hid (below_at HB.out hg (by omega) K8.out.lt); replace K3 := Lib.hid (K3.out.grown hg (by omega)); replace O1 := Lib.hid (Byts.apart O1.out K8.out hg (by decide)); replace K8 := Lib.hid (show Row 42 w12 w3.heap.size (cq iv rv fv av 1) from hk); clear hk hg))
      go_roundw
      case rel => exact ⟨1, by omega, rfl, by first | rfl | (simp [oq]; kernel_rfl), K8, K3, O1, HB⟩
      case measure => simp [intOf]
    · go_wp2_with (first
        | (refine F.aggIndex (i := 1) (n := 4) 45 (.tmp 23) (.tmp 24) rfl rfl rfl Tryd.underlying45 (by decide) agg_int size_int rfl rfl ?_)
        | (go_at_call 24; refine (P1.out _ _ c44 cm _ (by have h := O1.out.reads; rw [HD.out] at h; exact h)).mono ?_; rintro e w11 ⟨rfl, hb⟩; replace K3 := Lib.hid (K3.out.below hb); replace K8 := Lib.hid (K8.out.below hb); replace O1 := Lib.hid (O1.out.below hb); replace HB := Lib.hid (below_ext HB.out hb); have hz11 := hb.size; clear hb)
        | (refine F.rowSet _ (.tmp 36) (.tmp 34) rfl K8.out 1 (show (1 : Nat) < 4 by decide) rfl _ rfl rfl rfl info_u64 rfl ?_; intro w12 hk hg; replace HB := Lib.hid (below_at HB.out hg (by omega) K8.out.lt); replace K3 := Lib.hid (K3.out.grown hg (by omega)); replace O1 := Lib.hid (Byts.apart O1.out K8.out hg (by decide)); replace K8 := Lib.hid (show Row 42 w12 w3.heap.size (cq iv rv fv av 2) from hk); clear hk hg))
      go_roundw
      case rel => exact ⟨2, by omega, rfl, by first | rfl | (simp [oq]; kernel_rfl), K8, K3, O1, HB⟩
      case measure => simp [intOf]
    · go_wp2_with (first
        | (refine F.aggIndex (i := 2) (n := 4) 45 (.tmp 23) (.tmp 24) rfl rfl rfl Tryd.underlying45 (by decide) agg_int size_int rfl rfl ?_)
        | (go_at_call 24; refine (P2.out _ _ c44 cm _ (by have h := O1.out.reads; rw [HD.out] at h; exact h)).mono ?_; rintro e w11 ⟨rfl, hb⟩; replace K3 := Lib.hid (K3.out.below hb); replace K8 := Lib.hid (K8.out.below hb); replace O1 := Lib.hid (O1.out.below hb); replace HB := Lib.hid (below_ext HB.out hb); have hz11 := hb.size; clear hb)
        | (refine F.rowSet _ (.tmp 36) (.tmp 34) rfl K8.out 2 (show (2 : Nat) < 4 by decide) rfl _ rfl rfl rfl info_u64 rfl ?_; intro w12 hk hg; replace HB := Lib.hid (below_at HB.out hg (by omega) K8.out.lt); replace K3 := Lib.hid (K3.out.grown hg (by omega)); replace O1 := Lib.hid (Byts.apart O1.out K8.out hg (by decide)); replace K8 := Lib.hid (show Row 42 w12 w3.heap.size (cq iv rv fv av 3) from hk); clear hk hg))
      go_roundw
      case rel => exact ⟨3, by omega, rfl, by first | rfl | (simp [oq]; kernel_rfl), K8, K3, O1, HB⟩
      case measure => simp [intOf]
    · go_wp2_with (first
        | (refine F.aggIndex (i := 3) (n := 4) 45 (.tmp 23) (.tmp 24) rfl rfl rfl Tryd.underlying45 (by decide) agg_int size_int rfl rfl ?_)
        | (go_at_call 24; refine (P3.out _ _ c44 cm _ (by have h := O1.out.reads; rw [HD.out] at h; exact h)).mono ?_; rintro e w11 ⟨rfl, hb⟩; replace K3 := Lib.hid (K3.out.below hb); replace K8 := Lib.hid (K8.out.below hb); replace O1 := Lib.hid (O1.out.below hb); replace HB := Lib.hid (below_ext HB.out hb); have hz11 := hb.size; clear hb)
        | (refine F.rowSet _ (.tmp 36) (.tmp 34) rfl K8.out 3 (show (3 : Nat) < 4 by decide) rfl _ rfl rfl rfl info_u64 rfl ?_; intro w12 hk hg; replace HB := Lib.hid (below_at HB.out hg (by omega) K8.out.lt); replace K3 := Lib.hid (K3.out.grown hg (by omega)); replace O1 := Lib.hid (Byts.apart O1.out K8.out hg (by decide)); replace K8 := Lib.hid (show Row 42 w12 w3.heap.size (cq iv rv fv av 4) from hk); clear hk hg))
      go_roundw
      case rel => exact ⟨4, by omega, rfl, by first | rfl | (simp [oq]; kernel_rfl), K8, K3, O1, HB⟩
      case measure => simp [intOf]
    · have K8 := Lib.hid (show Row 42 wr w3.heap.size #[.int .u64 (iv : Int), .int .u64 (rv : Int), .int .u64 (fv : Int), .int .u64 (av : Int)] from K8.out)
      have tk0 : True := trivial
      have lz1 := K3.out.lt
      have lz2 := HB.out.size
      have lz8 := K8.out.lt
      have HCF : ∀ x, Byts w2.heap.size x A1 c1 D → ReadsInt x .u8 (if c1 = 26 then A1 else A1.map (·.add 26)) (44 - 26) (D.drop 26) := fun x ho => by
        have h := ho.reads
        rw [HD.out] at h
        exact h.drop_ 26 (by decide) c44
      have hzd : (!decide (D.drop 26 = Z (44 - 26))) = false := by simp [show D.drop 26 = Z 18 from hz]
      clear P0 P1 P2 P3 PG
      go_wp2_with (first
        | (go_skip)
        | (refine F.rowCell _ (.tmp 41) rfl (K8.out.cell (o := 0) rfl) rfl agg_u64 rfl ?_)
        | (refine F.rowCell _ (.tmp 43) rfl (K8.out.cell (o := 1) rfl) rfl agg_u64 rfl ?_)
        | (refine F.rowCell _ (.tmp 46) rfl (K8.out.cell (o := 2) rfl) rfl agg_u64 rfl ?_)
        | (refine F.rowCell _ (.tmp 48) rfl (K8.out.cell (o := 3) rfl) rfl agg_u64 rfl ?_)
        | (have _t := tk0; refine F.rowAlloc 24 rfl _ zero_mark rfl ?_; intro w21 hk hb hz21; replace K3 := Lib.hid (K3.out.below hb); replace O1 := Lib.hid (O1.out.below hb); replace HB := Lib.hid (below_ext HB.out hb); have K12 := Lib.hid hk; clear hk hb _t tk0)
        | (refine F.rowStore (cs := #[.int .u64 (iv : Int), .int .i64 (rv : Int), .int .u64 (fv : Int), .int .u64 (av : Int)]) 24 (.tmp 12) (.tmp 50) rfl K12.out rfl rfl info_mark rfl (ones_mark _ _ _ _) rfl ?_; intro w22 hk hg; replace HB := Lib.hid (below_at HB.out hg (by omega) K12.out.lt); replace K3 := Lib.hid (K3.out.grown hg (by omega)); replace O1 := Lib.hid (Byts.apart O1.out K12.out hg (by decide)); replace K12 := Lib.hid hk; have hz22 := hg.size; clear hk hg)
        | (refine F.rowLoad 24 (.tmp 12) rfl K12.out rfl Tryd.underlying24 rfl info_mark rfl ?_)
        | (go_at_call 9; refine (PM.out _).mono ?_; rintro e w23 ⟨rfl, hb⟩; replace K3 := Lib.hid (K3.out.below hb); replace K12 := Lib.hid (K12.out.below hb); replace O1 := Lib.hid (O1.out.below hb); replace HB := Lib.hid (below_ext HB.out hb); have hz23 := hb.size; clear hb)
        | (go_at_call 25; refine (Has_any _ _ _ _ (by decide) _ (HCF _ O1.out)).mono ?_; rintro e w24 ⟨rfl, hb⟩; replace K3 := Lib.hid (K3.out.below hb); replace K12 := Lib.hid (K12.out.below hb); replace HB := Lib.hid (below_ext HB.out hb); have hz24 := hb.size; clear hb))
      all_goals
        have k0 := K12.out.cell (o := 0) rfl
        have k1 := K12.out.cell (o := 1) rfl
        have k2 := K12.out.cell (o := 2) rfl
        have k3 := K12.out.cell (o := 3) rfl
        have s0 := K3.out.cell (o := 0) rfl
        have s1 := K3.out.cell (o := 1) rfl
        have s2 := K3.out.cell (o := 2) rfl
        have s3 := K3.out.cell (o := 3) rfl
        have f0 := K3.out.free (o := 0)
        have f1 := K3.out.free (o := 1)
        have f2 := K3.out.free (o := 2)
        have f3 := K3.out.free (o := 3)
        have lk := K12.out.lt
        have hne : ¬ (wr.heap.size = w1.heap.size) := by omega
        have hne2 : ¬ (w1.heap.size = wr.heap.size) := by omega
        go_region
        have r0 := setCell_row (o := 0) (v := .int .u64 (iv : Int)) K3.out
        have r1 := setCell_row (o := 1) (v := .int .i64 (rv : Int)) r0.1
        have r2 := setCell_row (o := 2) (v := .int .u64 (fv : Int)) r1.1
        have r3 := setCell_row (o := 3) (v := .int .u64 (av : Int)) r2.1
        have hle : w.heap.size ≤ w1.heap.size := by omega
        have K9 := Lib.hid (show Row 24 ((((w24.setCell ⟨w1.heap.size, 0, none⟩ (.int .u64 (iv : Int))).setCell ⟨w1.heap.size, 1, none⟩ (.int .i64 (rv : Int))).setCell ⟨w1.heap.size, 2, none⟩ (.int .u64 (fv : Int))).setCell ⟨w1.heap.size, 3, none⟩ (.int .u64 (av : Int))).drew w1.heap.size #[.int .u64 (iv : Int), .int .i64 (rv : Int), .int .u64 (fv : Int), .int .u64 (av : Int)] from r3.1)
        have HB9 := Lib.hid (show Below w.heap.size w ((((w24.setCell ⟨w1.heap.size, 0, none⟩ (.int .u64 (iv : Int))).setCell ⟨w1.heap.size, 1, none⟩ (.int .i64 (rv : Int))).setCell ⟨w1.heap.size, 2, none⟩ (.int .u64 (fv : Int))).setCell ⟨w1.heap.size, 3, none⟩ (.int .u64 (av : Int))).drew from below_drewN ((((HB.out.setCell (p := ⟨w1.heap.size, 0, none⟩) hle _).setCell (p := ⟨w1.heap.size, 1, none⟩) hle _).setCell (p := ⟨w1.heap.size, 2, none⟩) hle _).setCell (p := ⟨w1.heap.size, 3, none⟩) hle _) 1)
        clear r0 r1 r2 r3 k0 k1 k2 k3 s0 s1 s2 s3 f0 f1 f2 f3 K3 K12
        generalize ((((w24.setCell ⟨w1.heap.size, 0, none⟩ (.int .u64 (iv : Int))).setCell ⟨w1.heap.size, 1, none⟩ (.int .i64 (rv : Int))).setCell ⟨w1.heap.size, 2, none⟩ (.int .u64 (fv : Int))).setCell ⟨w1.heap.size, 3, none⟩ (.int .u64 (av : Int))).drew = w26 at K9 HB9 ⊢
        go_wp2
        exact bodyPost_ret (v := .tuple #[.int .u64 (n : Int), .agg #[.int .u64 (iv : Int), .int .i64 (rv : Int), .int .u64 (fv : Int), .int .u64 (av : Int)], .int .i64 0]) (ret_mark rfl _ _ rfl K9.out rfl rfl rfl) rfl ⟨rfl, HB9.out⟩
end Go.Proofs.YtdchcggllcgokaaDoor.K

namespace Go.Proofs.YtdchcggllcgokaaDoor.K
open Go.RowKit Go.Proofs.YtdchcggllcgokaaDoor.L Go.Proofs.YtdchcggllcgokaaDoor.U Go.Proofs.YtdchcggllcgokaaDoor.R Go.Proofs.YtdchcggllcgokaaDoor.E Go.Proofs.YtdchcggllcgokaaDoorW.PrintWords
set_option linter.unusedVariables false
set_option linter.unusedSimpArgs false
set_option maxRecDepth 100000 in
set_option maxHeartbeats 2000000 in
theorem rGet_1 (xs : List Int) (HX : Hid (xs.length = 64)) (n : Nat) (k : Int) (hk : (k != 0) = true) (PG : Hid (rGetN xs n k)) (w : World) : GotE 15 xs w ((0, 0, 0, 0, 0), k) := by
  have HB := Lib.hid (Below.refl w.heap.size w)
  show Calls _ _ _ _ _
  have tok0 : True := trivial
  have tp0 : True := trivial
  go_enter Tryd.func15, Tryd.ntmps15
  go_wp2_with (first
    | (go_skip)
    | (refine F.blkBox (.tmp 0) rfl rfl HX.out rfl ?_; intro w1 hk hb1 hz1; replace HB := Lib.hid (below_ext HB.out hb1); have K1 := Lib.hid hk; clear hk hb1)
    | (have _t := tok0; refine F.rowAlloc 24 rfl _ zero_mark rfl ?_; intro w2 hk hb2 hz2; replace K1 := Lib.hid (K1.out.below hb2); replace HB := Lib.hid (below_ext HB.out hb2); have K3 := Lib.hid hk; have tok1 : True := trivial; clear hk hb2 _t tok0)
    | (refine F.blkLoad (.tmp 1) rfl K1.out rfl rfl ?_)
    | (have _t := tp0; go_at_call 27; refine (PG.out _).mono ?_; rintro e w3 ⟨⟨A1, c1, l1, rfl⟩, hb3⟩; replace K1 := Lib.hid (K1.out.below hb3); replace K3 := Lib.hid (K3.out.below hb3); replace HB := Lib.hid (below_ext HB.out hb3); have hz3 := hb3.size; clear hb3; have tp1 : True := trivial; clear _t tp0)
    | (refine F.rowStore (cs := #[.int .u64 (0), .int .i64 (0), .int .u64 (0), .int .u64 (0)]) 24 (.tmp 3) (.tmp 26) rfl K3.out rfl rfl info_mark rfl (ones_mark _ _ _ _) rfl ?_; intro w4 hk hg; replace HB := Lib.hid (below_at HB.out hg (by omega) K3.out.lt); replace K1 := Lib.hid (K1.out.grown hg (by omega)); replace K3 := Lib.hid hk; have hz4 := hg.size; clear hk hg))
  exact bodyPost_ret (v := .tuple #[.int .u64 0, .agg #[.int .u64 0, .int .i64 0, .int .u64 0, .int .u64 0], .int .i64 k]) (ret_mark rfl _ _ rfl K3.out rfl rfl rfl) rfl ⟨rfl, HB.out⟩
set_option maxRecDepth 100000 in
set_option maxHeartbeats 2000000 in
theorem rGet_2 (xs : List Int) (HX : Hid (xs.length = 64)) (D : List Int) (HD : Hid (D.length = 44)) (n iv rv fv av : Nat) (nl : n < 18446744073709551616) (Il : iv < 18446744073709551616) (Rl : rv < 65536) (Fl : fv < 18446744073709551616) (Al : av < 18446744073709551616) (hz : Hid (¬ ∀ j : Nat, 26 ≤ j → j < 44 → rd D j = 0))
    (PG : Hid (∀ w : World, Calls Tryd.prog 27 #[blk xs] w fun e w' => (∃ A k, e = .returned (.tuple #[.int .u64 (n : Int), .slice A 44 k, .int .i64 0]) ∧ Byts w.heap.size w' A k D) ∧ Below w.heap.size w w'))
    (P0 : Hid (AtD 28 0 8 D iv)) (P1 : Hid (AtD 28 8 2 D rv)) (P2 : Hid (AtD 28 10 8 D fv)) (P3 : Hid (AtD 28 18 8 D av))
     (w : World) : GotE 15 xs w ((0, 0, 0, 0, 0), 5) := by
  have HB := Lib.hid (Below.refl w.heap.size w)
  show Calls _ _ _ _ _
  have tok0 : True := trivial
  have tp0 : True := trivial
  go_enter Tryd.func15, Tryd.ntmps15
  go_wp2_with (first
    | (go_skip)
    | (refine F.blkBox (.tmp 0) rfl rfl HX.out rfl ?_; intro w1 hk hb1 hz1; replace HB := Lib.hid (below_ext HB.out hb1); have K1 := Lib.hid hk; clear hk hb1)
    | (have _t := tok0; refine F.rowAlloc 24 rfl _ zero_mark rfl ?_; intro w2 hk hb2 hz2; replace K1 := Lib.hid (K1.out.below hb2); replace HB := Lib.hid (below_ext HB.out hb2); have K3 := Lib.hid hk; have tok1 : True := trivial; clear hk hb2 _t tok0)
    | (refine F.blkLoad (.tmp 1) rfl K1.out rfl rfl ?_)
    | (have _t := tp0; go_at_call 27; refine (PG.out _).mono ?_; rintro e w3 ⟨⟨A1, c1, rfl, o1⟩, hb3⟩; have O1 := Lib.hid o1; replace K1 := Lib.hid (K1.out.below hb3); replace K3 := Lib.hid (K3.out.below hb3); replace HB := Lib.hid (below_ext HB.out hb3); have hz3 := hb3.size; have c44 : 44 ≤ c1 := (by have h := o1.le; rw [HD.out] at h; exact h); have cm := o1.cap; clear hb3; have tp1 : True := trivial; clear _t tp0)
    | (have _t := tp1; go_at_call 28; refine (P0.out _ _ c44 cm _ (by have h := O1.out.reads; rw [HD.out] at h; exact h)).mono ?_; rintro e w4 ⟨rfl, hb4⟩; replace K1 := Lib.hid (K1.out.below hb4); replace K3 := Lib.hid (K3.out.below hb4); replace O1 := Lib.hid (O1.out.below hb4); replace HB := Lib.hid (below_ext HB.out hb4); have hz4 := hb4.size; clear hb4; have tp2 : True := trivial; clear _t tp1)
    | (have _t := tp2; go_at_call 28; refine (P1.out _ _ c44 cm _ (by have h := O1.out.reads; rw [HD.out] at h; exact h)).mono ?_; rintro e w5 ⟨rfl, hb5⟩; replace K1 := Lib.hid (K1.out.below hb5); replace K3 := Lib.hid (K3.out.below hb5); replace O1 := Lib.hid (O1.out.below hb5); replace HB := Lib.hid (below_ext HB.out hb5); have hz5 := hb5.size; clear hb5; have tp3 : True := trivial; clear _t tp2)
    | (have _t := tp3; go_at_call 28; refine (P2.out _ _ c44 cm _ (by have h := O1.out.reads; rw [HD.out] at h; exact h)).mono ?_; rintro e w6 ⟨rfl, hb6⟩; replace K1 := Lib.hid (K1.out.below hb6); replace K3 := Lib.hid (K3.out.below hb6); replace O1 := Lib.hid (O1.out.below hb6); replace HB := Lib.hid (below_ext HB.out hb6); have hz6 := hb6.size; clear hb6; have tp4 : True := trivial; clear _t tp3)
    | (have _t := tp4; go_at_call 28; refine (P3.out _ _ c44 cm _ (by have h := O1.out.reads; rw [HD.out] at h; exact h)).mono ?_; rintro e w7 ⟨rfl, hb7⟩; replace K1 := Lib.hid (K1.out.below hb7); replace K3 := Lib.hid (K3.out.below hb7); replace O1 := Lib.hid (O1.out.below hb7); replace HB := Lib.hid (below_ext HB.out hb7); have hz7 := hb7.size; clear hb7; have tp5 : True := trivial; clear _t tp4)
    | (have _t := tok1; refine F.rowAlloc 24 rfl _ zero_mark rfl ?_; intro w8 hk hb8 hz8; replace K1 := Lib.hid (K1.out.below hb8); replace K3 := Lib.hid (K3.out.below hb8); replace O1 := Lib.hid (O1.out.below hb8); replace HB := Lib.hid (below_ext HB.out hb8); have K16 := Lib.hid hk; have tok2 : True := trivial; clear hk hb8 _t tok1)
    | (refine F.rowStore (cs := #[.int .u64 ((iv : Int)), .int .i64 ((rv : Int)), .int .u64 ((fv : Int)), .int .u64 ((av : Int))]) 24 (.tmp 16) (.tmp 53) rfl K16.out rfl rfl info_mark rfl (ones_mark _ _ _ _) rfl ?_; intro w9 hk hg; replace HB := Lib.hid (below_at HB.out hg (by omega) K16.out.lt); replace K1 := Lib.hid (K1.out.grown hg (by omega)); replace K3 := Lib.hid (K3.out.grown hg (by omega)); replace O1 := Lib.hid (Byts.apart O1.out K16.out hg (by decide)); replace K16 := Lib.hid hk; have hz9 := hg.size; clear hk hg))
  have HR : Hid (ReadsInt w9 .u8 A1 44 D) := Lib.hid (by have h := O1.out.reads; rw [HD.out] at h; exact h)
  go_loopw [17] (fun i wr => ∃ q : Nat, 26 ≤ q ∧ q ≤ 44 ∧ i = .int .i64 (q : Int) ∧ Hid (∀ j : Nat, 26 ≤ j → j < q → rd D j = 0) ∧ Hid (Row 24 wr w1.heap.size #[.int .u64 0, .int .i64 0, .int .u64 0, .int .u64 0]) ∧ Hid (Row 24 wr w7.heap.size #[.int .u64 (iv : Int), .int .i64 (rv : Int), .int .u64 (fv : Int), .int .u64 (av : Int)]) ∧ Hid (Below w.heap.size w wr) ∧ Hid (ReadsInt wr .u8 A1 44 D)) (fun i _ => 44 - (intOf i).toNat)
  case atStart => exact ⟨26, by decide, by decide, rfl, Lib.hid (fun j h1 h2 => absurd h2 (by omega)), K3, K16, HB, HR⟩
  case round =>
    clear K3 K16 HB HR O1 K1
    obtain ⟨q, h26, hq, rfl, HA, K3, K16, HB, HR⟩ := hrel
    have hi0 : (0 : Int) ≤ (q : Int) := by omega
    have lz1 := K3.out.lt
    have lz2 := HB.out.size
    have lz8 := K16.out.lt
    by_cases hlt : q < 44
    · obtain ⟨ax, rfl, cx⟩ := HR.out.at_ (q : Int) (by omega) (by omega)
      simp only [Int.toNat_natCast] at cx
      by_cases he : rd D q = 0
      · have hb : (rd D q != 0) = false := by simp [he]
        have HE := Lib.hid he
        clear he
        go_wp2
        go_roundw
        case rel =>
          refine ⟨q + 1, by omega, by omega, by go_num, Lib.hid (fun j h1 h2 => ?_), K3, K16, HB, HR⟩
          rcases Nat.lt_or_ge j q with h | h
          · exact HA.out j h1 h
          · obtain rfl : j = q := by omega
            exact HE.out
        case measure => simp [intOf]; omega
      · have hb : (rd D q != 0) = true := by simpa using he
        clear he
        go_wp2_with (first
          | (go_skip)
          | (refine F.rowStore (cs := #[.int .u64 0, .int .i64 0, .int .u64 0, .int .u64 0]) 24 (.tmp 3) (.tmp 65) rfl K3.out rfl rfl info_mark rfl (ones_mark _ _ _ _) rfl ?_; intro w21 hk hg; replace HB := Lib.hid (below_at HB.out hg (by omega) K3.out.lt); replace K3 := Lib.hid hk; clear hk hg))
        exact bodyPost_ret (v := .tuple #[.int .u64 0, .agg #[.int .u64 0, .int .i64 0, .int .u64 0, .int .u64 0], .int .i64 5]) (ret_mark rfl _ _ rfl K3.out rfl rfl rfl) rfl ⟨rfl, HB.out⟩
    · obtain rfl : q = 44 := by omega
      exact absurd (fun j h1 h2 => HA.out j h1 h2) hz.out
set_option maxRecDepth 100000 in
set_option maxHeartbeats 2000000 in
theorem rGet_3 (xs : List Int) (HX : Hid (xs.length = 64)) (D : List Int) (HD : Hid (D.length = 44)) (n iv rv fv av : Nat) (nl : n < 18446744073709551616) (Il : iv < 18446744073709551616) (Rl : rv < 65536) (Fl : fv < 18446744073709551616) (Al : av < 18446744073709551616) (hz : Hid (∀ j : Nat, 26 ≤ j → j < 44 → rd D j = 0)) (h1 : 4611686018427387904 < n)
    (PG : Hid (∀ w : World, Calls Tryd.prog 27 #[blk xs] w fun e w' => (∃ A k, e = .returned (.tuple #[.int .u64 (n : Int), .slice A 44 k, .int .i64 0]) ∧ Byts w.heap.size w' A k D) ∧ Below w.heap.size w w'))
    (P0 : Hid (AtD 28 0 8 D iv)) (P1 : Hid (AtD 28 8 2 D rv)) (P2 : Hid (AtD 28 10 8 D fv)) (P3 : Hid (AtD 28 18 8 D av))
     (w : World) : GotE 15 xs w ((0, 0, 0, 0, 0), 5) := by
  have HB := Lib.hid (Below.refl w.heap.size w)
  show Calls _ _ _ _ _
  have g3 : decide (4611686018427387904 < n) = true := by simp; omega
  have g4 : decide ((4611686018427387904 : Int) < (n : Int)) = true := by simp; omega
  have tok0 : True := trivial
  have tp0 : True := trivial
  go_enter Tryd.func15, Tryd.ntmps15
  go_wp2_with (first
    | (go_skip)
    | (refine F.blkBox (.tmp 0) rfl rfl HX.out rfl ?_; intro w1 hk hb1 hz1; replace HB := Lib.hid (below_ext HB.out hb1); have K1 := Lib.hid hk; clear hk hb1)
    | (have _t := tok0; refine F.rowAlloc 24 rfl _ zero_mark rfl ?_; intro w2 hk hb2 hz2; replace K1 := Lib.hid (K1.out.below hb2); replace HB := Lib.hid (below_ext HB.out hb2); have K3 := Lib.hid hk; have tok1 : True := trivial; clear hk hb2 _t tok0)
    | (refine F.blkLoad (.tmp 1) rfl K1.out rfl rfl ?_)
    | (have _t := tp0; go_at_call 27; refine (PG.out _).mono ?_; rintro e w3 ⟨⟨A1, c1, rfl, o1⟩, hb3⟩; have O1 := Lib.hid o1; replace K1 := Lib.hid (K1.out.below hb3); replace K3 := Lib.hid (K3.out.below hb3); replace HB := Lib.hid (below_ext HB.out hb3); have hz3 := hb3.size; have c44 : 44 ≤ c1 := (by have h := o1.le; rw [HD.out] at h; exact h); have cm := o1.cap; clear hb3; have tp1 : True := trivial; clear _t tp0)
    | (have _t := tp1; go_at_call 28; refine (P0.out _ _ c44 cm _ (by have h := O1.out.reads; rw [HD.out] at h; exact h)).mono ?_; rintro e w4 ⟨rfl, hb4⟩; replace K1 := Lib.hid (K1.out.below hb4); replace K3 := Lib.hid (K3.out.below hb4); replace O1 := Lib.hid (O1.out.below hb4); replace HB := Lib.hid (below_ext HB.out hb4); have hz4 := hb4.size; clear hb4; have tp2 : True := trivial; clear _t tp1)
    | (have _t := tp2; go_at_call 28; refine (P1.out _ _ c44 cm _ (by have h := O1.out.reads; rw [HD.out] at h; exact h)).mono ?_; rintro e w5 ⟨rfl, hb5⟩; replace K1 := Lib.hid (K1.out.below hb5); replace K3 := Lib.hid (K3.out.below hb5); replace O1 := Lib.hid (O1.out.below hb5); replace HB := Lib.hid (below_ext HB.out hb5); have hz5 := hb5.size; clear hb5; have tp3 : True := trivial; clear _t tp2)
    | (have _t := tp3; go_at_call 28; refine (P2.out _ _ c44 cm _ (by have h := O1.out.reads; rw [HD.out] at h; exact h)).mono ?_; rintro e w6 ⟨rfl, hb6⟩; replace K1 := Lib.hid (K1.out.below hb6); replace K3 := Lib.hid (K3.out.below hb6); replace O1 := Lib.hid (O1.out.below hb6); replace HB := Lib.hid (below_ext HB.out hb6); have hz6 := hb6.size; clear hb6; have tp4 : True := trivial; clear _t tp3)
    | (have _t := tp4; go_at_call 28; refine (P3.out _ _ c44 cm _ (by have h := O1.out.reads; rw [HD.out] at h; exact h)).mono ?_; rintro e w7 ⟨rfl, hb7⟩; replace K1 := Lib.hid (K1.out.below hb7); replace K3 := Lib.hid (K3.out.below hb7); replace O1 := Lib.hid (O1.out.below hb7); replace HB := Lib.hid (below_ext HB.out hb7); have hz7 := hb7.size; clear hb7; have tp5 : True := trivial; clear _t tp4)
    | (have _t := tok1; refine F.rowAlloc 24 rfl _ zero_mark rfl ?_; intro w8 hk hb8 hz8; replace K1 := Lib.hid (K1.out.below hb8); replace K3 := Lib.hid (K3.out.below hb8); replace O1 := Lib.hid (O1.out.below hb8); replace HB := Lib.hid (below_ext HB.out hb8); have K16 := Lib.hid hk; have tok2 : True := trivial; clear hk hb8 _t tok1)
    | (refine F.rowStore (cs := #[.int .u64 ((iv : Int)), .int .i64 ((rv : Int)), .int .u64 ((fv : Int)), .int .u64 ((av : Int))]) 24 (.tmp 16) (.tmp 53) rfl K16.out rfl rfl info_mark rfl (ones_mark _ _ _ _) rfl ?_; intro w9 hk hg; replace HB := Lib.hid (below_at HB.out hg (by omega) K16.out.lt); replace K1 := Lib.hid (K1.out.grown hg (by omega)); replace K3 := Lib.hid (K3.out.grown hg (by omega)); replace O1 := Lib.hid (Byts.apart O1.out K16.out hg (by decide)); replace K16 := Lib.hid hk; have hz9 := hg.size; clear hk hg))
  have HR : Hid (ReadsInt w9 .u8 A1 44 D) := Lib.hid (by have h := O1.out.reads; rw [HD.out] at h; exact h)
  go_loopw [17] (fun i wr => ∃ q : Nat, 26 ≤ q ∧ q ≤ 44 ∧ i = .int .i64 (q : Int) ∧ Hid (∀ j : Nat, 26 ≤ j → j < q → rd D j = 0) ∧ Hid (Row 24 wr w1.heap.size #[.int .u64 0, .int .i64 0, .int .u64 0, .int .u64 0]) ∧ Hid (Row 24 wr w7.heap.size #[.int .u64 (iv : Int), .int .i64 (rv : Int), .int .u64 (fv : Int), .int .u64 (av : Int)]) ∧ Hid (Below w.heap.size w wr) ∧ Hid (ReadsInt wr .u8 A1 44 D)) (fun i _ => 44 - (intOf i).toNat)
  case atStart => exact ⟨26, by decide, by decide, rfl, Lib.hid (fun j h1 h2 => absurd h2 (by omega)), K3, K16, HB, HR⟩
  case round =>
    clear K3 K16 HB HR O1 K1
    obtain ⟨q, h26, hq, rfl, HA, K3, K16, HB, HR⟩ := hrel
    have hi0 : (0 : Int) ≤ (q : Int) := by omega
    have lz1 := K3.out.lt
    have lz2 := HB.out.size
    have lz8 := K16.out.lt
    by_cases hlt : q < 44
    · obtain ⟨ax, rfl, cx⟩ := HR.out.at_ (q : Int) (by omega) (by omega)
      simp only [Int.toNat_natCast] at cx
      by_cases he : rd D q = 0
      · have hb : (rd D q != 0) = false := by simp [he]
        have HE := Lib.hid he
        clear he
        go_wp2
        go_roundw
        case rel =>
          refine ⟨q + 1, by omega, by omega, by go_num, Lib.hid (fun j h1 h2 => ?_), K3, K16, HB, HR⟩
          rcases Nat.lt_or_ge j q with h | h
          · exact HA.out j h1 h
          · obtain rfl : j = q := by omega
            exact HE.out
        case measure => simp [intOf]; omega
      · exact absurd (hz.out q h26 hlt) he
    · obtain rfl : q = 44 := by omega
      clear P0 P1 P2 P3 PG
      go_wp2_with (first
        | (go_skip)
        | (refine F.rowLoad 24 (.tmp 16) rfl K16.out rfl Tryd.underlying24 rfl info_mark rfl ?_)
        | (refine F.rowStore (cs := #[.int .u64 0, .int .i64 0, .int .u64 0, .int .u64 0]) 24 (.tmp 3) (.tmp 73) rfl K3.out rfl rfl info_mark rfl (ones_mark _ _ _ _) rfl ?_; intro w25 hk hg; replace HB := Lib.hid (below_at HB.out hg (by omega) K3.out.lt); replace K3 := Lib.hid hk; clear hk hg))
      exact bodyPost_ret (v := .tuple #[.int .u64 0, .agg #[.int .u64 0, .int .i64 0, .int .u64 0, .int .u64 0], .int .i64 5]) (ret_mark rfl _ _ rfl K3.out rfl rfl rfl) rfl ⟨rfl, HB.out⟩
set_option maxRecDepth 100000 in
set_option maxHeartbeats 2000000 in
theorem rGet_4 (xs : List Int) (HX : Hid (xs.length = 64)) (D : List Int) (HD : Hid (D.length = 44)) (n iv rv fv av : Nat) (nl : n < 18446744073709551616) (Il : iv < 18446744073709551616) (Rl : rv < 65536) (Fl : fv < 18446744073709551616) (Al : av < 18446744073709551616) (hz : Hid (∀ j : Nat, 26 ≤ j → j < 44 → rd D j = 0)) (h1 : n ≤ 4611686018427387904)
    (PG : Hid (∀ w : World, Calls Tryd.prog 27 #[blk xs] w fun e w' => (∃ A k, e = .returned (.tuple #[.int .u64 (n : Int), .slice A 44 k, .int .i64 0]) ∧ Byts w.heap.size w' A k D) ∧ Below w.heap.size w w'))
    (P0 : Hid (AtD 28 0 8 D iv)) (P1 : Hid (AtD 28 8 2 D rv)) (P2 : Hid (AtD 28 10 8 D fv)) (P3 : Hid (AtD 28 18 8 D av))
    (PM : Hid (∀ w : World, Calls Tryd.prog 10 #[magg iv (rv : Int) fv av] w fun e w' => e = .returned (.bool false) ∧ Below w.heap.size w w')) (w : World) : GotE 15 xs w ((0, 0, 0, 0, 0), 5) := by
  have HB := Lib.hid (Below.refl w.heap.size w)
  show Calls _ _ _ _ _
  have g3 : decide (4611686018427387904 < n) = false := by simp; omega
  have g4 : decide ((4611686018427387904 : Int) < (n : Int)) = false := by simp; omega
  have tok0 : True := trivial
  have tp0 : True := trivial
  go_enter Tryd.func15, Tryd.ntmps15
  go_wp2_with (first
    | (go_skip)
    | (refine F.blkBox (.tmp 0) rfl rfl HX.out rfl ?_; intro w1 hk hb1 hz1; replace HB := Lib.hid (below_ext HB.out hb1); have K1 := Lib.hid hk; clear hk hb1)
    | (have _t := tok0; refine F.rowAlloc 24 rfl _ zero_mark rfl ?_; intro w2 hk hb2 hz2; replace K1 := Lib.hid (K1.out.below hb2); replace HB := Lib.hid (below_ext HB.out hb2); have K3 := Lib.hid hk; have tok1 : True := trivial; clear hk hb2 _t tok0)
    | (refine F.blkLoad (.tmp 1) rfl K1.out rfl rfl ?_)
    | (have _t := tp0; go_at_call 27; refine (PG.out _).mono ?_; rintro e w3 ⟨⟨A1, c1, rfl, o1⟩, hb3⟩; have O1 := Lib.hid o1; replace K1 := Lib.hid (K1.out.below hb3); replace K3 := Lib.hid (K3.out.below hb3); replace HB := Lib.hid (below_ext HB.out hb3); have hz3 := hb3.size; have c44 : 44 ≤ c1 := (by have h := o1.le; rw [HD.out] at h; exact h); have cm := o1.cap; clear hb3; have tp1 : True := trivial; clear _t tp0)
    | (have _t := tp1; go_at_call 28; refine (P0.out _ _ c44 cm _ (by have h := O1.out.reads; rw [HD.out] at h; exact h)).mono ?_; rintro e w4 ⟨rfl, hb4⟩; replace K1 := Lib.hid (K1.out.below hb4); replace K3 := Lib.hid (K3.out.below hb4); replace O1 := Lib.hid (O1.out.below hb4); replace HB := Lib.hid (below_ext HB.out hb4); have hz4 := hb4.size; clear hb4; have tp2 : True := trivial; clear _t tp1)
    | (have _t := tp2; go_at_call 28; refine (P1.out _ _ c44 cm _ (by have h := O1.out.reads; rw [HD.out] at h; exact h)).mono ?_; rintro e w5 ⟨rfl, hb5⟩; replace K1 := Lib.hid (K1.out.below hb5); replace K3 := Lib.hid (K3.out.below hb5); replace O1 := Lib.hid (O1.out.below hb5); replace HB := Lib.hid (below_ext HB.out hb5); have hz5 := hb5.size; clear hb5; have tp3 : True := trivial; clear _t tp2)
    | (have _t := tp3; go_at_call 28; refine (P2.out _ _ c44 cm _ (by have h := O1.out.reads; rw [HD.out] at h; exact h)).mono ?_; rintro e w6 ⟨rfl, hb6⟩; replace K1 := Lib.hid (K1.out.below hb6); replace K3 := Lib.hid (K3.out.below hb6); replace O1 := Lib.hid (O1.out.below hb6); replace HB := Lib.hid (below_ext HB.out hb6); have hz6 := hb6.size; clear hb6; have tp4 : True := trivial; clear _t tp3)
    | (have _t := tp4; go_at_call 28; refine (P3.out _ _ c44 cm _ (by have h := O1.out.reads; rw [HD.out] at h; exact h)).mono ?_; rintro e w7 ⟨rfl, hb7⟩; replace K1 := Lib.hid (K1.out.below hb7); replace K3 := Lib.hid (K3.out.below hb7); replace O1 := Lib.hid (O1.out.below hb7); replace HB := Lib.hid (below_ext HB.out hb7); have hz7 := hb7.size; clear hb7; have tp5 : True := trivial; clear _t tp4)
    | (have _t := tok1; refine F.rowAlloc 24 rfl _ zero_mark rfl ?_; intro w8 hk hb8 hz8; replace K1 := Lib.hid (K1.out.below hb8); replace K3 := Lib.hid (K3.out.below hb8); replace O1 := Lib.hid (O1.out.below hb8); replace HB := Lib.hid (below_ext HB.out hb8); have K16 := Lib.hid hk; have tok2 : True := trivial; clear hk hb8 _t tok1)
    | (refine F.rowStore (cs := #[.int .u64 ((iv : Int)), .int .i64 ((rv : Int)), .int .u64 ((fv : Int)), .int .u64 ((av : Int))]) 24 (.tmp 16) (.tmp 53) rfl K16.out rfl rfl info_mark rfl (ones_mark _ _ _ _) rfl ?_; intro w9 hk hg; replace HB := Lib.hid (below_at HB.out hg (by omega) K16.out.lt); replace K1 := Lib.hid (K1.out.grown hg (by omega)); replace K3 := Lib.hid (K3.out.grown hg (by omega)); replace O1 := Lib.hid (Byts.apart O1.out K16.out hg (by decide)); replace K16 := Lib.hid hk; have hz9 := hg.size; clear hk hg))
  have HR : Hid (ReadsInt w9 .u8 A1 44 D) := Lib.hid (by have h := O1.out.reads; rw [HD.out] at h; exact h)
  go_loopw [17] (fun i wr => ∃ q : Nat, 26 ≤ q ∧ q ≤ 44 ∧ i = .int .i64 (q : Int) ∧ Hid (∀ j : Nat, 26 ≤ j → j < q → rd D j = 0) ∧ Hid (Row 24 wr w1.heap.size #[.int .u64 0, .int .i64 0, .int .u64 0, .int .u64 0]) ∧ Hid (Row 24 wr w7.heap.size #[.int .u64 (iv : Int), .int .i64 (rv : Int), .int .u64 (fv : Int), .int .u64 (av : Int)]) ∧ Hid (Below w.heap.size w wr) ∧ Hid (ReadsInt wr .u8 A1 44 D)) (fun i _ => 44 - (intOf i).toNat)
  case atStart => exact ⟨26, by decide, by decide, rfl, Lib.hid (fun j h1 h2 => absurd h2 (by omega)), K3, K16, HB, HR⟩
  case round =>
    clear K3 K16 HB HR O1 K1
    obtain ⟨q, h26, hq, rfl, HA, K3, K16, HB, HR⟩ := hrel
    have hi0 : (0 : Int) ≤ (q : Int) := by omega
    have lz1 := K3.out.lt
    have lz2 := HB.out.size
    have lz8 := K16.out.lt
    by_cases hlt : q < 44
    · obtain ⟨ax, rfl, cx⟩ := HR.out.at_ (q : Int) (by omega) (by omega)
      simp only [Int.toNat_natCast] at cx
      by_cases he : rd D q = 0
      · have hb : (rd D q != 0) = false := by simp [he]
        have HE := Lib.hid he
        clear he
        go_wp2
        go_roundw
        case rel =>
          refine ⟨q + 1, by omega, by omega, by go_num, Lib.hid (fun j h1 h2 => ?_), K3, K16, HB, HR⟩
          rcases Nat.lt_or_ge j q with h | h
          · exact HA.out j h1 h
          · obtain rfl : j = q := by omega
            exact HE.out
        case measure => simp [intOf]; omega
      · exact absurd (hz.out q h26 hlt) he
    · obtain rfl : q = 44 := by omega
      clear P0 P1 P2 P3 PG
      go_wp2_with (first
        | (go_skip)
        | (refine F.rowLoad 24 (.tmp 16) rfl K16.out rfl Tryd.underlying24 rfl info_mark rfl ?_)
        | (go_at_call 10; refine (PM.out _).mono ?_; rintro e w24 ⟨rfl, hb⟩; replace K3 := Lib.hid (K3.out.below hb); replace K16 := Lib.hid (K16.out.below hb); replace HB := Lib.hid (below_ext HB.out hb); have hz24 := hb.size; clear hb)
        | (refine F.rowStore (cs := #[.int .u64 0, .int .i64 0, .int .u64 0, .int .u64 0]) 24 (.tmp 3) (.tmp 73) rfl K3.out rfl rfl info_mark rfl (ones_mark _ _ _ _) rfl ?_; intro w25 hk hg; replace HB := Lib.hid (below_at HB.out hg (by omega) K3.out.lt); replace K3 := Lib.hid hk; clear hk hg))
      exact bodyPost_ret (v := .tuple #[.int .u64 0, .agg #[.int .u64 0, .int .i64 0, .int .u64 0, .int .u64 0], .int .i64 5]) (ret_mark rfl _ _ rfl K3.out rfl rfl rfl) rfl ⟨rfl, HB.out⟩
set_option maxRecDepth 100000 in
set_option maxHeartbeats 2000000 in
theorem rGet_5 (xs : List Int) (HX : Hid (xs.length = 64)) (D : List Int) (HD : Hid (D.length = 44)) (n iv rv fv av : Nat) (nl : n < 18446744073709551616) (Il : iv < 18446744073709551616) (Rl : rv < 65536) (Fl : fv < 18446744073709551616) (Al : av < 18446744073709551616) (hz : Hid (∀ j : Nat, 26 ≤ j → j < 44 → rd D j = 0)) (h1 : n ≤ 4611686018427387904)
    (PG : Hid (∀ w : World, Calls Tryd.prog 27 #[blk xs] w fun e w' => (∃ A k, e = .returned (.tuple #[.int .u64 (n : Int), .slice A 44 k, .int .i64 0]) ∧ Byts w.heap.size w' A k D) ∧ Below w.heap.size w w'))
    (P0 : Hid (AtD 28 0 8 D iv)) (P1 : Hid (AtD 28 8 2 D rv)) (P2 : Hid (AtD 28 10 8 D fv)) (P3 : Hid (AtD 28 18 8 D av))
    (PM : Hid (∀ w : World, Calls Tryd.prog 10 #[magg iv (rv : Int) fv av] w fun e w' => e = .returned (.bool true) ∧ Below w.heap.size w w')) (w : World) : GotE 15 xs w ((n, iv, rv, fv, av), 0) := by
  have HB := Lib.hid (Below.refl w.heap.size w)
  show Calls _ _ _ _ _
  have g3 : decide (4611686018427387904 < n) = false := by simp; omega
  have g4 : decide ((4611686018427387904 : Int) < (n : Int)) = false := by simp; omega
  have tok0 : True := trivial
  have tp0 : True := trivial
  go_enter Tryd.func15, Tryd.ntmps15
  go_wp2_with (first
    | (go_skip)
    | (refine F.blkBox (.tmp 0) rfl rfl HX.out rfl ?_; intro w1 hk hb1 hz1; replace HB := Lib.hid (below_ext HB.out hb1); have K1 := Lib.hid hk; clear hk hb1)
    | (have _t := tok0; refine F.rowAlloc 24 rfl _ zero_mark rfl ?_; intro w2 hk hb2 hz2; replace K1 := Lib.hid (K1.out.below hb2); replace HB := Lib.hid (below_ext HB.out hb2); have K3 := Lib.hid hk; have tok1 : True := trivial; clear hk hb2 _t tok0)
    | (refine F.blkLoad (.tmp 1) rfl K1.out rfl rfl ?_)
    | (have _t := tp0; go_at_call 27; refine (PG.out _).mono ?_; rintro e w3 ⟨⟨A1, c1, rfl, o1⟩, hb3⟩; have O1 := Lib.hid o1; replace K1 := Lib.hid (K1.out.below hb3); replace K3 := Lib.hid (K3.out.below hb3); replace HB := Lib.hid (below_ext HB.out hb3); have hz3 := hb3.size; have c44 : 44 ≤ c1 := (by have h := o1.le; rw [HD.out] at h; exact h); have cm := o1.cap; clear hb3; have tp1 : True := trivial; clear _t tp0)
    | (have _t := tp1; go_at_call 28; refine (P0.out _ _ c44 cm _ (by have h := O1.out.reads; rw [HD.out] at h; exact h)).mono ?_; rintro e w4 ⟨rfl, hb4⟩; replace K1 := Lib.hid (K1.out.below hb4); replace K3 := Lib.hid (K3.out.below hb4); replace O1 := Lib.hid (O1.out.below hb4); replace HB := Lib.hid (below_ext HB.out hb4); have hz4 := hb4.size; clear hb4; have tp2 : True := trivial; clear _t tp1)
    | (have _t := tp2; go_at_call 28; refine (P1.out _ _ c44 cm _ (by have h := O1.out.reads; rw [HD.out] at h; exact h)).mono ?_; rintro e w5 ⟨rfl, hb5⟩; replace K1 := Lib.hid (K1.out.below hb5); replace K3 := Lib.hid (K3.out.below hb5); replace O1 := Lib.hid (O1.out.below hb5); replace HB := Lib.hid (below_ext HB.out hb5); have hz5 := hb5.size; clear hb5; have tp3 : True := trivial; clear _t tp2)
    | (have _t := tp3; go_at_call 28; refine (P2.out _ _ c44 cm _ (by have h := O1.out.reads; rw [HD.out] at h; exact h)).mono ?_; rintro e w6 ⟨rfl, hb6⟩; replace K1 := Lib.hid (K1.out.below hb6); replace K3 := Lib.hid (K3.out.below hb6); replace O1 := Lib.hid (O1.out.below hb6); replace HB := Lib.hid (below_ext HB.out hb6); have hz6 := hb6.size; clear hb6; have tp4 : True := trivial; clear _t tp3)
    | (have _t := tp4; go_at_call 28; refine (P3.out _ _ c44 cm _ (by have h := O1.out.reads; rw [HD.out] at h; exact h)).mono ?_; rintro e w7 ⟨rfl, hb7⟩; replace K1 := Lib.hid (K1.out.below hb7); replace K3 := Lib.hid (K3.out.below hb7); replace O1 := Lib.hid (O1.out.below hb7); replace HB := Lib.hid (below_ext HB.out hb7); have hz7 := hb7.size; clear hb7; have tp5 : True := trivial; clear _t tp4)
    | (have _t := tok1; refine F.rowAlloc 24 rfl _ zero_mark rfl ?_; intro w8 hk hb8 hz8; replace K1 := Lib.hid (K1.out.below hb8); replace K3 := Lib.hid (K3.out.below hb8); replace O1 := Lib.hid (O1.out.below hb8); replace HB := Lib.hid (below_ext HB.out hb8); have K16 := Lib.hid hk; have tok2 : True := trivial; clear hk hb8 _t tok1)
    | (refine F.rowStore (cs := #[.int .u64 ((iv : Int)), .int .i64 ((rv : Int)), .int .u64 ((fv : Int)), .int .u64 ((av : Int))]) 24 (.tmp 16) (.tmp 53) rfl K16.out rfl rfl info_mark rfl (ones_mark _ _ _ _) rfl ?_; intro w9 hk hg; replace HB := Lib.hid (below_at HB.out hg (by omega) K16.out.lt); replace K1 := Lib.hid (K1.out.grown hg (by omega)); replace K3 := Lib.hid (K3.out.grown hg (by omega)); replace O1 := Lib.hid (Byts.apart O1.out K16.out hg (by decide)); replace K16 := Lib.hid hk; have hz9 := hg.size; clear hk hg))
  have HR : Hid (ReadsInt w9 .u8 A1 44 D) := Lib.hid (by have h := O1.out.reads; rw [HD.out] at h; exact h)
  go_loopw [17] (fun i wr => ∃ q : Nat, 26 ≤ q ∧ q ≤ 44 ∧ i = .int .i64 (q : Int) ∧ Hid (∀ j : Nat, 26 ≤ j → j < q → rd D j = 0) ∧ Hid (Row 24 wr w1.heap.size #[.int .u64 0, .int .i64 0, .int .u64 0, .int .u64 0]) ∧ Hid (Row 24 wr w7.heap.size #[.int .u64 (iv : Int), .int .i64 (rv : Int), .int .u64 (fv : Int), .int .u64 (av : Int)]) ∧ Hid (Below w.heap.size w wr) ∧ Hid (ReadsInt wr .u8 A1 44 D)) (fun i _ => 44 - (intOf i).toNat)
  case atStart => exact ⟨26, by decide, by decide, rfl, Lib.hid (fun j h1 h2 => absurd h2 (by omega)), K3, K16, HB, HR⟩
  case round =>
    clear K3 K16 HB HR O1 K1
    obtain ⟨q, h26, hq, rfl, HA, K3, K16, HB, HR⟩ := hrel
    have hi0 : (0 : Int) ≤ (q : Int) := by omega
    have lz1 := K3.out.lt
    have lz2 := HB.out.size
    have lz8 := K16.out.lt
    by_cases hlt : q < 44
    · obtain ⟨ax, rfl, cx⟩ := HR.out.at_ (q : Int) (by omega) (by omega)
      simp only [Int.toNat_natCast] at cx
      by_cases he : rd D q = 0
      · have hb : (rd D q != 0) = false := by simp [he]
        have HE := Lib.hid he
        clear he
        go_wp2
        go_roundw
        case rel =>
          refine ⟨q + 1, by omega, by omega, by go_num, Lib.hid (fun j h1 h2 => ?_), K3, K16, HB, HR⟩
          rcases Nat.lt_or_ge j q with h | h
          · exact HA.out j h1 h
          · obtain rfl : j = q := by omega
            exact HE.out
        case measure => simp [intOf]; omega
      · exact absurd (hz.out q h26 hlt) he
    · obtain rfl : q = 44 := by omega
      clear P0 P1 P2 P3 PG
      go_wp2_with (first
        | (go_skip)
        | (refine F.rowLoad 24 (.tmp 16) rfl K16.out rfl Tryd.underlying24 rfl info_mark rfl ?_)
        | (go_at_call 10; refine (PM.out _).mono ?_; rintro e w24 ⟨rfl, hb⟩; replace K3 := Lib.hid (K3.out.below hb); replace K16 := Lib.hid (K16.out.below hb); replace HB := Lib.hid (below_ext HB.out hb); have hz24 := hb.size; clear hb))
      all_goals
        have k0 := K16.out.cell (o := 0) rfl
        have k1 := K16.out.cell (o := 1) rfl
        have k2 := K16.out.cell (o := 2) rfl
        have k3 := K16.out.cell (o := 3) rfl
        have s0 := K3.out.cell (o := 0) rfl
        have s1 := K3.out.cell (o := 1) rfl
        have s2 := K3.out.cell (o := 2) rfl
        have s3 := K3.out.cell (o := 3) rfl
        have f0 := K3.out.free (o := 0)
        have f1 := K3.out.free (o := 1)
        have f2 := K3.out.free (o := 2)
        have f3 := K3.out.free (o := 3)
        have lk := K16.out.lt
        have hne : ¬ (w7.heap.size = w1.heap.size) := by omega
        have hne2 : ¬ (w1.heap.size = w7.heap.size) := by omega
        go_region
        have r0 := setCell_row (o := 0) (v := .int .u64 (iv : Int)) K3.out
        have r1 := setCell_row (o := 1) (v := .int .i64 (rv : Int)) r0.1
        have r2 := setCell_row (o := 2) (v := .int .u64 (fv : Int)) r1.1
        have r3 := setCell_row (o := 3) (v := .int .u64 (av : Int)) r2.1
        have hle : w.heap.size ≤ w1.heap.size := by omega
        have K9 := Lib.hid (show Row 24 ((((w24.setCell ⟨w1.heap.size, 0, none⟩ (.int .u64 (iv : Int))).setCell ⟨w1.heap.size, 1, none⟩ (.int .i64 (rv : Int))).setCell ⟨w1.heap.size, 2, none⟩ (.int .u64 (fv : Int))).setCell ⟨w1.heap.size, 3, none⟩ (.int .u64 (av : Int))).drew w1.heap.size #[.int .u64 (iv : Int), .int .i64 (rv : Int), .int .u64 (fv : Int), .int .u64 (av : Int)] from r3.1)
        have HB9 := Lib.hid (show Below w.heap.size w ((((w24.setCell ⟨w1.heap.size, 0, none⟩ (.int .u64 (iv : Int))).setCell ⟨w1.heap.size, 1, none⟩ (.int .i64 (rv : Int))).setCell ⟨w1.heap.size, 2, none⟩ (.int .u64 (fv : Int))).setCell ⟨w1.heap.size, 3, none⟩ (.int .u64 (av : Int))).drew from below_drewN ((((HB.out.setCell (p := ⟨w1.heap.size, 0, none⟩) hle _).setCell (p := ⟨w1.heap.size, 1, none⟩) hle _).setCell (p := ⟨w1.heap.size, 2, none⟩) hle _).setCell (p := ⟨w1.heap.size, 3, none⟩) hle _) 1)
        clear r0 r1 r2 r3 k0 k1 k2 k3 s0 s1 s2 s3 f0 f1 f2 f3 K3 K16
        generalize ((((w24.setCell ⟨w1.heap.size, 0, none⟩ (.int .u64 (iv : Int))).setCell ⟨w1.heap.size, 1, none⟩ (.int .i64 (rv : Int))).setCell ⟨w1.heap.size, 2, none⟩ (.int .u64 (fv : Int))).setCell ⟨w1.heap.size, 3, none⟩ (.int .u64 (av : Int))).drew = w26 at K9 HB9 ⊢
        go_wp2
        exact bodyPost_ret (v := .tuple #[.int .u64 (n : Int), .agg #[.int .u64 (iv : Int), .int .i64 (rv : Int), .int .u64 (fv : Int), .int .u64 (av : Int)], .int .i64 0]) (ret_mark rfl _ _ rfl K9.out rfl rfl rfl) rfl ⟨rfl, HB9.out⟩
end Go.Proofs.YtdchcggllcgokaaDoor.K

namespace Go.Proofs.YtdchcggllcgokaaDoor.K
open Go.RowKit Go.Proofs.YtdchcggllcgokaaDoor.L Go.Proofs.YtdchcggllcgokaaDoor.U Go.Proofs.YtdchcggllcgokaaDoor.R Go.Proofs.YtdchcggllcgokaaDoor.E Go.Proofs.YtdchcggllcgokaaDoorW.PrintWords
set_option linter.unusedVariables false
set_option linter.unusedSimpArgs false
theorem got_44 {xs D : List Int} {n : Nat} (hl : xs.length = 64) (hw : Wf8 xs) (hg : gots xs = (n, D, 0)) (hDl : D.length = 44) (w : World) :
    Calls Tryd.prog 23 #[blk xs] w fun e w' => (∃ A k, e = .returned (.tuple #[.int .u64 (n : Int), .slice A 44 k, .int .i64 0]) ∧ Byts w.heap.size w' A k D) ∧ Below w.heap.size w w' := by
  refine (Get_seal xs hl hw w).mono ?_
  rintro e w' ⟨⟨A, k, he, ho, _⟩, hb⟩
  rw [hg] at he ho
  rw [← hDl]
  exact ⟨⟨A, k, he, ho⟩, hb⟩
theorem rgot_44 {xs D : List Int} {n : Nat} (hl : xs.length = 64) (hw : Wf8 xs) (hg : gots xs = (n, D, 0)) (hDl : D.length = 44) (w : World) :
    Calls Tryd.prog 27 #[blk xs] w fun e w' => (∃ A k, e = .returned (.tuple #[.int .u64 (n : Int), .slice A 44 k, .int .i64 0]) ∧ Byts w.heap.size w' A k D) ∧ Below w.heap.size w w' := by
  refine (rGet_seal xs hl hw w).mono ?_
  rintro e w' ⟨⟨A, k, he, ho⟩, hb⟩
  rw [hg] at he ho
  rw [← hDl]
  exact ⟨⟨A, k, he, ho⟩, hb⟩
theorem tail_z {D : List Int} (hl : D.length = 44) : (∀ j : Nat, 26 ≤ j → j < 44 → rd D j = 0) ↔ D.drop 26 = Z 18 := by
  constructor
  · intro h
    apply List.ext_getElem
    · rw [List.length_drop, hl, Z_length]
    · intro j h1 h2
      rw [List.length_drop, hl] at h1
      have h3 := h (26 + j) (by omega) (by omega)
      rw [rd, Int.toNat_natCast, List.getD_eq_getElem?_getD, List.getElem?_eq_getElem (by omega), Option.getD_some] at h3
      rw [List.getElem_drop, h3]; simp only [Z, List.getElem_replicate]
  · intro h j h1 h2
    have h3 : (D.drop 26)[j - 26]? = some 0 := by rw [h, Z, List.getElem?_replicate, if_pos (by omega)]
    rw [List.getElem?_drop, show 26 + (j - 26) = j by omega] at h3
    rw [rd, Int.toNat_natCast, List.getD_eq_getElem?_getD, h3, Option.getD_some]
theorem Get_mark (xs : List Int) (hl : xs.length = 64) (hw : Wf8 xs) (w : World) (SZ : Siz w) : GotE 14 xs w (gotM xs) := by
  by_cases h0 : (gots xs).2.2 = 0
  · have hn := gots_lt hw
    obtain ⟨⟨n, D, k⟩, hg⟩ : ∃ q, gots xs = q := ⟨_, rfl⟩
    rw [hg] at h0 hn
    obtain rfl : k = 0 := h0
    obtain ⟨n0, hDi, hs⟩ := reseal hl hw hg
    have hDl : D.length = 44 := by rw [hDi]; exact inner_length hl
    have hDw : Wf8 D := by rw [hDi]; exact inner_wf hw
    have PG := got_44 hl hw hg hDl
    rw [gotM_ok hg]
    have il := gI_lt hDw
    have rl := gR_lt hDw
    have fl := gF_lt hDw
    have al := gA_lt hDw
    have P0 := getD hDw hDl 0 8 (by decide) (by decide) (by decide) (gI D) rfl
    have P1 := getD hDw hDl 8 2 (by decide) (by decide) (by decide) (gR D) rfl
    have P2 := getD hDw hDl 10 8 (by decide) (by decide) (by decide) (gF D) rfl
    have P3 := getD hDw hDl 18 8 (by decide) (by decide) (by decide) (gA D) rfl
    clear hDi hs hDw hg
    generalize gI D = i at *
    generalize gR D = r at *
    generalize gF D = f at *
    generalize gA D = a at *
    have pm := fun w => May_any i (r : Int) f a il ⟨by omega, by omega⟩ fl al w
    by_cases hb : 4611686018427387904 < n
    · rw [if_neg (fun h => by have := (okM_ok h.1).2.1; omega)]
      exact Get_2 xs (Lib.hid hl) D (Lib.hid hDl) n i r f a hn il rl fl al hb (Lib.hid PG) (Lib.hid P0) (Lib.hid P1) (Lib.hid P2) (Lib.hid P3) w (Lib.hid SZ)
    by_cases hm : mayM i (r : Int) f a = true
    · rw [hm] at pm
      by_cases hz : D.drop 26 = Z 18
      · rw [if_pos ⟨by rw [okM, hm, Bool.and_true, decide_eq_true_eq]; omega, hz⟩]
        exact Get_5 xs (Lib.hid hl) D (Lib.hid hDl) n i r f a hn il rl fl al (by omega) hz (Lib.hid PG) (Lib.hid P0) (Lib.hid P1) (Lib.hid P2) (Lib.hid P3) (Lib.hid pm) w (Lib.hid SZ)
      · rw [if_neg (fun h => hz h.2)]
        exact Get_4 xs (Lib.hid hl) D (Lib.hid hDl) n i r f a hn il rl fl al (by omega) hz (Lib.hid PG) (Lib.hid P0) (Lib.hid P1) (Lib.hid P2) (Lib.hid P3) (Lib.hid pm) w (Lib.hid SZ)
    · rw [show mayM i (r : Int) f a = false by simpa using hm] at pm
      rw [if_neg (fun h => hm (by have h2 := h.1; rw [okM, Bool.and_eq_true] at h2; exact h2.2))]
      exact Get_3 xs (Lib.hid hl) D (Lib.hid hDl) n i r f a hn il rl fl al (by omega) (Lib.hid PG) (Lib.hid P0) (Lib.hid P1) (Lib.hid P2) (Lib.hid P3) (Lib.hid pm) w (Lib.hid SZ)
  · rw [gotM_err h0]
    have hk := bne_iff_ne.2 h0
    have PG := get_n hl hw
    generalize (gots xs).2.2 = k at *
    generalize (gots xs).1 = n at *
    exact Get_1 xs (Lib.hid hl) n k hk (Lib.hid PG) w
theorem rGet_mark (xs : List Int) (hl : xs.length = 64) (hw : Wf8 xs) (w : World) : GotE 15 xs w (gotM xs) := by
  by_cases h0 : (gots xs).2.2 = 0
  · have hn := gots_lt hw
    obtain ⟨⟨n, D, k⟩, hg⟩ : ∃ q, gots xs = q := ⟨_, rfl⟩
    rw [hg] at h0 hn
    obtain rfl : k = 0 := h0
    obtain ⟨n0, hDi, hs⟩ := reseal hl hw hg
    have hDl : D.length = 44 := by rw [hDi]; exact inner_length hl
    have hDw : Wf8 D := by rw [hDi]; exact inner_wf hw
    have PG := rgot_44 hl hw hg hDl
    rw [gotM_ok hg]
    have il := gI_lt hDw
    have rl := gR_lt hDw
    have fl := gF_lt hDw
    have al := gA_lt hDw
    have P0 := rgetD hDw hDl 0 8 (by decide) (by decide) (by decide) (gI D) rfl
    have P1 := rgetD hDw hDl 8 2 (by decide) (by decide) (by decide) (gR D) rfl
    have P2 := rgetD hDw hDl 10 8 (by decide) (by decide) (by decide) (gF D) rfl
    have P3 := rgetD hDw hDl 18 8 (by decide) (by decide) (by decide) (gA D) rfl
    clear hDi hs hDw hg
    generalize gI D = i at *
    generalize gR D = r at *
    generalize gF D = f at *
    generalize gA D = a at *
    have pm := fun w => rMay_any i (r : Int) f a il ⟨by omega, by omega⟩ fl al w
    by_cases hz : D.drop 26 = Z 18
    · have hzz := (tail_z hDl).2 hz
      by_cases hb : 4611686018427387904 < n
      · rw [if_neg (fun h => by have := (okM_ok h.1).2.1; omega)]
        exact rGet_3 xs (Lib.hid hl) D (Lib.hid hDl) n i r f a hn il rl fl al (Lib.hid hzz) hb (Lib.hid PG) (Lib.hid P0) (Lib.hid P1) (Lib.hid P2) (Lib.hid P3) w
      by_cases hm : mayM i (r : Int) f a = true
      · rw [hm] at pm
        rw [if_pos ⟨by rw [okM, hm, Bool.and_true, decide_eq_true_eq]; omega, hz⟩]
        exact rGet_5 xs (Lib.hid hl) D (Lib.hid hDl) n i r f a hn il rl fl al (Lib.hid hzz) (by omega) (Lib.hid PG) (Lib.hid P0) (Lib.hid P1) (Lib.hid P2) (Lib.hid P3) (Lib.hid pm) w
      · rw [show mayM i (r : Int) f a = false by simpa using hm] at pm
        rw [if_neg (fun h => hm (by have h2 := h.1; rw [okM, Bool.and_eq_true] at h2; exact h2.2))]
        exact rGet_4 xs (Lib.hid hl) D (Lib.hid hDl) n i r f a hn il rl fl al (Lib.hid hzz) (by omega) (Lib.hid PG) (Lib.hid P0) (Lib.hid P1) (Lib.hid P2) (Lib.hid P3) (Lib.hid pm) w
    · rw [if_neg (fun h => hz h.2)]
      exact rGet_2 xs (Lib.hid hl) D (Lib.hid hDl) n i r f a hn il rl fl al (Lib.hid fun h => hz ((tail_z hDl).1 h)) (Lib.hid PG) (Lib.hid P0) (Lib.hid P1) (Lib.hid P2) (Lib.hid P3) w
  · rw [gotM_err h0]
    have hk := bne_iff_ne.2 h0
    have PG := rget_n hl hw
    generalize (gots xs).2.2 = k at *
    generalize (gots xs).1 = n at *
    exact rGet_1 xs (Lib.hid hl) n k hk (Lib.hid PG) w
end Go.Proofs.YtdchcggllcgokaaDoor.K
