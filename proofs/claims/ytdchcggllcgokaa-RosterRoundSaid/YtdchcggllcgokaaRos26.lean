/-
  ashlarlaw10.RosterRound: true.
-/
import Derived.Test.YtdchcggllcgokaaRos24
import Derived.Test.YtdchcggllcgokaaRos25
namespace Go.Proofs.Ytdchcggllcgokaa.Q
open Go.RowKit Go.Proofs.Ytdchcggllcgokaa.L Go.Proofs.Ytdchcggllcgokaa.R Go.Proofs.YtdchcggllcgokaaW.PrintWords
set_option linter.unusedVariables false
set_option linter.unusedSimpArgs false
def heal (m s : Int) (a : Nat) (c : Int) : Ro := ⟨m, s, 40, zero16.set a 2, c, false⟩
theorem wf_heal (m s : Int) (a : Nat) (c : Int) : Wf (heal m s a c) := (wf_new0 m s).set a (v := 2) rfl c false
theorem may_heal {m s : Int} (h : mayG m s 40 = true) {a : Nat} (ha : (a : Int) < m) {c : Int} (h0 : 0 ≤ c) (h1 : c < s) : mayR (heal m s a c) = true := by
  have h2 := mayG_ok h
  exact may_set (wf_new0 m s) (may_new0 h) (by omega) ha (v := 2) (by decide) c false h0 h1 (.inl (one_cnt a (by omega)).2.2.1)
theorem rd_heal (m s : Int) {a : Nat} (ha : a < 16) (c : Int) (j : Nat) : rd (heal m s a c).st (j : Int) = if j = a then 2 else 0 := by
  show rd (zero16.set a 2) (j : Int) = _
  rw [rd_set (by rw [zero16_length]; exact ha), rd_zero16]
noncomputable def rxs (m s : Int) (a : Nat) (q : Nat) : Ro := if (q : Int) < s then heal m s a q else new0 m s
theorem round_any (a1 a2 o : Int) (w1 : (Lit.int .u8 a1).wf = true) (w2 : (Lit.int .u8 a2).wf = true) (w3 : (Lit.int .u8 o).wf = true) (w : World) :
    Calls Try.prog 16 #[.int .u8 a1, .int .u8 a2, .int .u8 o] w fun e w' => e = .returned (.bool true) ∧ Below w.heap.size w w' := by
  have P0 := fun w => geo_any a1 a2 w1 w2 w
  obtain ⟨b1, b2⟩ := bounds_u8 w1
  obtain ⟨b3, b4⟩ := bounds_u8 w2
  obtain ⟨b5, b6⟩ := bounds_u8 w3
  obtain ⟨m, hm⟩ : ∃ m, m = 3 + a1 % 14 := ⟨_, rfl⟩
  obtain ⟨s, hs⟩ : ∃ s, s = 1 + a2 % 64 := ⟨_, rfl⟩
  rw [← hm, ← hs] at P0
  have m1 : 3 ≤ m := by omega
  have m2 : m ≤ 16 := by omega
  have s1 : 1 ≤ s := by omega
  have s2 : s ≤ 64 := by omega
  have hG : mayG m s 40 = true := decide_eq_true (by omega)
  clear hm hs
  obtain ⟨a, ha⟩ : ∃ a : Nat, o % m = a := ⟨(o % m).toNat, (Int.toNat_of_nonneg (Int.emod_nonneg _ (by omega))).symm⟩
  have ha1 : (a : Int) < m := by rw [← ha]; exact Int.emod_lt_of_pos _ (by omega)
  have ha16 : a < 16 := by omega
  have P1 := fun w => New_any m s 40 w
  rw [newR, if_pos hG] at P1
  have x1 := may_lost1 hG ha1
  have f0 := wf_new0 m s
  have f1 := wf_lost1 m s a
  have r1 : rd (lost1 m s a).st (a : Int) = 1 := by rw [rd_lost1 m s ha16, if_pos rfl]
  have P3 := fun w => Lose_any (new0 m s) f0 (o % m) w
  rw [ha, lose_new0 hG ha1, ← ha] at P3
  have l1 : loseR (lost1 m s a) (a : Int) = (lost1 m s a, false) := by
    rw [loseR, if_pos (mem_of x1 (by omega) ha1), r1, if_neg (by decide), Int.toNat_natCast, set_rd (by rw [f1.1]; exact ha16) r1]
    rfl
  have P4 := fun w => Lose_any (lost1 m s a) f1 (o % m) w
  rw [ha, l1, ← ha] at P4
  have hr0 : rxs m s a 0 = heal m s a 0 := by rw [rxs, if_pos (by show (0 : Int) < s; omega)]; rfl
  have c1 : beginR (lost1 m s a) (a : Int) = (rxs m s a 0, 0) := by
    rw [beginR, if_pos (mem_of x1 (by omega) ha1), if_pos ⟨r1, by rw [missR_is x1]; show 16 - cnt (zero16.set a 1) 0 16 ≤ 1; rw [(one_cnt a ha16).2.1]; decide, rfl⟩, hr0, Int.toNat_natCast]
    show ((⟨m, s, 40, (zero16.set a 1).set a 2, 0, false⟩ : Ro), (0 : Int)) = (⟨m, s, 40, zero16.set a 2, 0, false⟩, 0)
    rw [List.set_set]
  have P5 := fun w => Begin_any (lost1 m s a) f1 (o % m) w
  rw [ha, c1, ← ha] at P5
  have hl : ∀ q, (rxs m s a q).st.length = 16 := fun q => by
    unfold rxs; split
    · exact (wf_heal m s a q).1
    · exact f0.1
  have hx : ∀ q : Nat, (q : Int) < s → rxs m s a q = heal m s a q := fun q h => by rw [rxs, if_pos h]
  have he : ∀ q : Nat, (q : Int) = s → rxs m s a q = new0 m s := fun q h => by rw [rxs, if_neg (by omega)]
  have PH : ∀ (q : Nat) (_ : (q : Int) < s) (w : World), Calls Try.prog 68 #[ros (rxs m s a q)] w fun e w' => e = .returned (.tuple #[.int .i64 (o % m), .bool true]) ∧ Below w.heap.size w w' := fun q hq w => by
    rw [hx q hq]
    have hmy := may_heal hG ha1 (c := (q : Int)) (by omega) hq
    obtain ⟨k, b, h, -, hp⟩ := Heals_same (heal m s a q) (wf_heal m s a q)
    rcases hp with ⟨h1, -⟩ | ⟨-, -, -, h2⟩ | ⟨-, rfl, z, rfl, hz, hz2, -⟩
    · rw [hmy] at h1; exact Bool.noConfusion h1
    · exact absurd (by rw [rd_heal m s ha16, if_pos rfl]) (h2 a ha16)
    · have : z = a := by
        rw [rd_heal m s ha16] at hz2
        rcases Nat.decEq z a with e | e
        · rw [if_neg e] at hz2; exact absurd hz2 (by decide)
        · exact e
      subst this
      rw [ha]; exact h w
  have PN : ∀ (q : Nat) (_ : (q : Int) < s) (w : World), Calls Try.prog 69 #[ros (rxs m s a q)] w fun e w' => e = .returned (.tuple #[ros (rxs m s a (q + 1)), .int .i64 0]) ∧ Below w.heap.size w w' := fun q hq w => by
    rw [hx q hq]
    have hmy := may_heal hG ha1 (c := (q : Int)) (by omega) hq
    refine next_of (wf_heal m s a q) hmy (k := a) ha16 (by rw [rd_heal m s ha16, if_pos rfl]) (one_cnt a ha16).2.2.1 ?_ w
    by_cases h : (q : Int) + 1 = s
    · refine .inl ⟨h, ?_⟩
      rw [he (q + 1) (by omega)]
      show (⟨m, s, 40, zero16, 0, false⟩ : Ro) = ⟨m, s, 40, (zero16.set a 2).set a 0, 0, false⟩
      rw [List.set_set, set_rd (by rw [zero16_length]; exact ha16) (rd_zero16 a)]
    · refine .inr ⟨h, ?_⟩
      rw [hx (q + 1) (by omega)]
      rfl
  have PA : ∀ (q : Nat) (_ : (q : Int) ≤ s) (i : Nat) (_ : (i : Int) < m) (t : Nat) (_ : (t : Int) < s) (w : World), Calls Try.prog 70 #[ros (rxs m s a q), .int .i64 (i : Int), .int .i64 (t : Int)] w fun e w' => e = .returned (.bool (decide ((i : Int) ≠ o % m ∨ t < q))) ∧ Below w.heap.size w w' := fun q hq i hi t ht w => by
    by_cases h : (q : Int) < s
    · rw [hx q h]
      have hmy := may_heal hG ha1 (c := (q : Int)) (by omega) h
      have h1 := Has_any (heal m s a q) (wf_heal m s a q) i t w
      rw [hasR, mem_of hmy (by omega) hi, Bool.true_and, decide_eq_true (show 0 ≤ (t : Int) ∧ (t : Int) < (heal m s a q).s from ⟨by omega, ht⟩), Bool.true_and, rd_heal m s ha16] at h1
      rw [ha]
      by_cases e : i = a
      · rw [if_pos e] at h1
        rw [show decide ((i : Int) ≠ (a : Int) ∨ t < q) = decide ((t : Int) < (heal m s a q).cu) by
          show _ = decide ((t : Int) < (q : Int))
          rw [decide_eq_decide]; omega]
        exact h1
      · rw [if_neg e] at h1
        rw [decide_eq_true (show (i : Int) ≠ (a : Int) ∨ t < q by omega)]
        exact h1
    · rw [he q (by omega)]
      have h1 := Has_any (new0 m s) f0 i t w
      rw [hasR, mem_of (may_new0 hG) (by omega) hi, Bool.true_and, decide_eq_true (show 0 ≤ (t : Int) ∧ (t : Int) < (new0 m s).s from ⟨by omega, ht⟩), Bool.true_and, show rd (new0 m s).st (i : Int) = 0 from rd_zero16 i] at h1
      rw [decide_eq_true (show (i : Int) ≠ o % m ∨ t < q by omega)]
      exact h1
  exact Round_walk a1 a2 m s o m1 m2 s1 s2 b5 (by omega) (new0 m s) (lost1 m s a) (lost1 m s a) (rxs m s a) (Lib.hid f0.1) (Lib.hid f1.1) (Lib.hid f1.1) (Lib.hid hl) (Lib.hid fun q hq => by rw [hx q hq]; rfl) (Lib.hid he)
    (Lib.hid P0) (Lib.hid P1) (Lib.hid P3) (Lib.hid P4) (Lib.hid P5) (Lib.hid PH) (Lib.hid PN) (Lib.hid PA) (Lib.hid fun w => lives_any w) w
end Go.Proofs.Ytdchcggllcgokaa.Q
