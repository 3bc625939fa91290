/-
  ashlarlaw10.RosterRefuses: true.
-/
import Derived.Test.YtdchcggllcgokaaRos23
namespace Go.Proofs.Ytdchcggllcgokaa.Q
open Go.RowKit Go.Proofs.Ytdchcggllcgokaa.L Go.Proofs.Ytdchcggllcgokaa.R Go.Proofs.YtdchcggllcgokaaW.PrintWords
set_option linter.unusedVariables false
set_option linter.unusedSimpArgs false
theorem one_cnt : ∀ k : Nat, k < 16 → cnt (zero16.set k 1) 2 16 = 0 ∧ cnt (zero16.set k 1) 0 16 = 15 ∧ cnt (zero16.set k 2) 2 16 = 1 ∧ cnt (zero16.set k 2) 0 16 = 15 := by decide +kernel
theorem two_cnt : ∀ k : Nat, k < 16 → ∀ j : Nat, j < 16 → k ≠ j → cnt ((zero16.set k 1).set j 1) 2 16 = 0 ∧ cnt ((zero16.set k 1).set j 1) 0 16 = 14 := by decide +kernel
def new0 (m s : Int) : Ro := ⟨m, s, 40, zero16, 0, false⟩
theorem may_new0 {m s : Int} (h : mayG m s 40 = true) : mayR (new0 m s) = true := (mayR_new m s 40).trans h
theorem wf_new0 (m s : Int) : Wf (new0 m s) := Wf_rog m s 40
def lost1 (m s : Int) (a : Nat) : Ro := ⟨m, s, 40, zero16.set a 1, 0, false⟩
theorem wf_lost1 (m s : Int) (a : Nat) : Wf (lost1 m s a) := (wf_new0 m s).set a (v := 1) rfl 0 false
theorem may_lost1 {m s : Int} (h : mayG m s 40 = true) {a : Nat} (ha : (a : Int) < m) : mayR (lost1 m s a) = true := by
  have h1 := mayG_ok h
  exact may_set (wf_new0 m s) (may_new0 h) (by omega) ha (v := 1) (by decide) 0 false (by decide) (by show (0 : Int) < s; omega) (.inr ⟨(one_cnt a (by omega)).1, rfl⟩)
theorem mem_of {x : Ro} (h : mayR x = true) {i : Int} (h0 : 0 ≤ i) (h1 : i < x.m) : memR x i = true := by
  rw [memR, h, Bool.true_and, decide_eq_true_eq]; exact ⟨h0, h1⟩
theorem lose_new0 {m s : Int} (h : mayG m s 40 = true) {a : Nat} (ha : (a : Int) < m) : loseR (new0 m s) a = (lost1 m s a, true) := by
  have h1 : rd (new0 m s).st (a : Int) = 0 := rd_zero16 a
  rw [loseR, if_pos (mem_of (may_new0 h) (by omega) ha), h1, if_neg (by decide), Int.toNat_natCast]
  rfl
theorem rd_lost1 (m s : Int) {a : Nat} (ha : a < 16) (j : Nat) : rd (lost1 m s a).st (j : Int) = if j = a then 1 else 0 := by
  show rd (zero16.set a 1) (j : Int) = _
  rw [rd_set (by rw [zero16_length]; exact ha), rd_zero16]
theorem begin_no {x : Ro} {i : Int} (hm : memR x i = true) (h : ¬ (rd x.st i = 1 ∧ missR x ≤ 1 ∧ x.go = false)) : beginR x i = (ro0, 17) := by
  rw [beginR, if_pos hm, if_neg h]
theorem refuses_any (a1 a2 o p : Int) (w1 : (Lit.int .u8 a1).wf = true) (w2 : (Lit.int .u8 a2).wf = true) (w3 : (Lit.int .u8 o).wf = true) (w4 : (Lit.int .u8 p).wf = true) (w : World) :
    Calls Try.prog 26 #[.int .u8 a1, .int .u8 a2, .int .u8 o, .int .u8 p] w fun e w' => e = .returned (.bool true) ∧ Below w.heap.size w w' := by
  have P0 := fun w => geo_any a1 a2 w1 w2 w
  obtain ⟨b1, b2⟩ := bounds_u8 w1
  obtain ⟨b3, b4⟩ := bounds_u8 w2
  obtain ⟨b5, b6⟩ := bounds_u8 w3
  obtain ⟨b7, b8⟩ := bounds_u8 w4
  obtain ⟨m, hm⟩ : ∃ m, m = 3 + a1 % 14 := ⟨_, rfl⟩
  obtain ⟨s, hs⟩ : ∃ s, s = 1 + a2 % 64 := ⟨_, rfl⟩
  rw [← hm, ← hs] at P0
  have m1 : 3 ≤ m := by omega
  have m2 : m ≤ 16 := by omega
  have hG : mayG m s 40 = true := decide_eq_true (by omega)
  clear hm hs
  obtain ⟨a, ha⟩ : ∃ a : Nat, o % m = a := ⟨(o % m).toNat, (Int.toNat_of_nonneg (Int.emod_nonneg _ (by omega))).symm⟩
  obtain ⟨b, hb⟩ : ∃ b : Nat, p % m = b := ⟨(p % m).toNat, (Int.toNat_of_nonneg (Int.emod_nonneg _ (by omega))).symm⟩
  have ha1 : (a : Int) < m := by rw [← ha]; exact Int.emod_lt_of_pos _ (by omega)
  have hb1 : (b : Int) < m := by rw [← hb]; exact Int.emod_lt_of_pos _ (by omega)
  have P1 := fun w => New_any m s 40 w
  rw [newR, if_pos hG] at P1
  have x0 := may_new0 hG
  have x1 := may_lost1 hG ha1
  have f0 := wf_new0 m s
  have f1 := wf_lost1 m s a
  have P2 := fun w => Begin_any (new0 m s) f0 (o % m) w
  rw [ha, begin_no (mem_of x0 (by omega) ha1) (by rintro ⟨h, -⟩; exact absurd ((rd_zero16 a).symm.trans h) (by decide)), ← ha] at P2
  have P3 := fun w => Lose_any (new0 m s) f0 (o % m) w
  rw [ha, lose_new0 hG ha1, ← ha] at P3
  have P4 := fun w => Gone_any (lost1 m s a) f1 true w
  rw [goneR, if_pos x1] at P4
  have x2 : mayR { lost1 m s a with go := true } = true := by
    have h := (mayR_iff _).1 x1
    exact (mayR_iff _).2 h
  have P5 := fun w => Begin_any { lost1 m s a with go := true } f1 (o % m) w
  rw [ha, begin_no (mem_of x2 (by omega) ha1) (by rintro ⟨-, -, h⟩; exact Bool.noConfusion (show true = false from h)), ← ha] at P5
  have P9 := fun w => Begin_any (lost1 m s a) f1 m w
  rw [beginR, if_neg (by rw [memR, x1, Bool.true_and, decide_eq_true_eq]; rintro ⟨-, h⟩; exact absurd h (Int.lt_irrefl _))] at P9
  have P6 := fun w => Lose_any (lost1 m s a) f1 (p % m) w
  have ha16 : a < 16 := by omega
  have hb16 : b < 16 := by omega
  by_cases hab : a = b
  · subst hab
    have l1 : loseR (lost1 m s a) (a : Int) = (lost1 m s a, false) := by
      have h1 : rd (lost1 m s a).st (a : Int) = 1 := by rw [rd_lost1 m s ha16, if_pos rfl]
      rw [loseR, if_pos (mem_of x1 (by omega) ha1), h1, if_neg (by decide), Int.toNat_natCast, set_rd (by rw [f1.1]; exact ha16) h1]
      rfl
    rw [hb, l1, ← hb] at P6
    have c1 : beginR (lost1 m s a) (a : Int) = (⟨m, s, 40, (zero16.set a 1).set a 2, 0, false⟩, 0) := by
      rw [beginR, if_pos (mem_of x1 (by omega) ha1), if_pos ⟨by rw [rd_lost1 m s ha16, if_pos rfl], by rw [missR_is x1]; show 16 - cnt (zero16.set a 1) 0 16 ≤ 1; rw [(one_cnt a ha16).2.1]; decide, rfl⟩]; rfl
    have P7 := fun w => Begin_any (lost1 m s a) f1 (o % m) w
    have P8 := fun w => Begin_any (lost1 m s a) f1 (p % m) w
    rw [ha, c1, ← ha] at P7
    rw [hb, c1, ← hb] at P8
    have PS := fun w => State_any (lost1 m s a) f1 w
    rw [stateR_of x1 (n := 1) (by rw [missR_is x1]; show 16 - cnt (zero16.set a 1) 0 16 = 1; rw [(one_cnt a ha16).2.1]) (d := 0) (one_cnt a ha16).1] at PS
    have hl : ((lost1 m s a).st.set (a : Int).toNat 2).length = 16 := by rw [List.length_set]; exact f1.1
    exact Refuses_true a1 a2 m s o p m1 m2 b5 (by omega) b7 (by omega) (by rw [ha, hb, beq_self_eq_true]) (by rw [ha, hb]; exact bne_self_eq_false _) (new0 m s) (lost1 m s a) { lost1 m s a with go := true } (lost1 m s a) _ _ false (Lib.hid f0.1) (Lib.hid f1.1) (Lib.hid f1.1) (Lib.hid f1.1) (Lib.hid hl) (Lib.hid hl)
      (Lib.hid P0) (Lib.hid P1) (Lib.hid P2) (Lib.hid P3) (Lib.hid P4) (Lib.hid P5) (Lib.hid P6) (Lib.hid P7) (Lib.hid P8) (Lib.hid P9) (Lib.hid PS) (Lib.hid fun w => lives_any w) w
  · have hz1 : rd (lost1 m s a).st (b : Int) = 0 := by rw [rd_lost1 m s ha16, if_neg (by omega)]
    have l1 : loseR (lost1 m s a) (b : Int) = (⟨m, s, 40, (zero16.set a 1).set b 1, 0, false⟩, true) := by
      rw [loseR, if_pos (mem_of x1 (by omega) hb1), hz1, if_neg (by decide), Int.toNat_natCast]
      rfl
    rw [hb, l1, ← hb] at P6
    obtain ⟨t2, t0⟩ := two_cnt a ha16 b hb16 hab
    have x3 : mayR ⟨m, s, 40, (zero16.set a 1).set b 1, 0, false⟩ = true :=
      may_set f1 x1 hb16 hb1 (v := 1) (by decide) 0 false (by decide) (by show (0 : Int) < s; have := mayG_ok hG; omega) (.inr ⟨t2, rfl⟩)
    have f3 : Wf ⟨m, s, 40, (zero16.set a 1).set b 1, 0, false⟩ := f1.set b (v := 1) rfl 0 false
    have ms : missR ⟨m, s, 40, (zero16.set a 1).set b 1, 0, false⟩ = 2 := by
      rw [missR_is x3]; show 16 - cnt ((zero16.set a 1).set b 1) 0 16 = 2; rw [t0]
    have P7 := fun w => Begin_any ⟨m, s, 40, (zero16.set a 1).set b 1, 0, false⟩ f3 (o % m) w
    have P8 := fun w => Begin_any ⟨m, s, 40, (zero16.set a 1).set b 1, 0, false⟩ f3 (p % m) w
    rw [ha, begin_no (mem_of x3 (by omega) ha1) (by rintro ⟨-, h, -⟩; rw [ms] at h; exact absurd h (by decide)), ← ha] at P7
    rw [hb, begin_no (mem_of x3 (by omega) hb1) (by rintro ⟨-, h, -⟩; rw [ms] at h; exact absurd h (by decide)), ← hb] at P8
    have PS := fun w => State_any ⟨m, s, 40, (zero16.set a 1).set b 1, 0, false⟩ f3 w
    rw [stateR_of x3 ms (d := 0) t2] at PS
    exact Refuses_false a1 a2 m s o p m1 m2 b5 (by omega) b7 (by omega) (by rw [ha, hb, beq_eq_false_iff_ne]; omega) (by rw [ha, hb, bne_iff_ne]; omega) (new0 m s) (lost1 m s a) { lost1 m s a with go := true } ⟨m, s, 40, (zero16.set a 1).set b 1, 0, false⟩ ro0 ro0 true (Lib.hid f0.1) (Lib.hid f1.1) (Lib.hid f1.1) (Lib.hid f3.1) (Lib.hid rfl) (Lib.hid rfl)
      (Lib.hid P0) (Lib.hid P1) (Lib.hid P2) (Lib.hid P3) (Lib.hid P4) (Lib.hid P5) (Lib.hid P6) (Lib.hid P7) (Lib.hid P8) (Lib.hid P9) (Lib.hid PS) (Lib.hid fun w => lives_any w) w
end Go.Proofs.Ytdchcggllcgokaa.Q
