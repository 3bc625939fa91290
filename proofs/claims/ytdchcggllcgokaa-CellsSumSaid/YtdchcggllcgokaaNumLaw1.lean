/-
  ashlarlaw01.NumOne, NumNumbers: the walks.
-/
import Derived.Test.YtdchcggllcgokaaNumL
namespace Go.Proofs.Ytdchcggllcgokaa.U
open Go.RowKit Go.Proofs.Ytdchcggllcgokaa.L Go.Proofs.YtdchcggllcgokaaW.PrintWords
set_option linter.unusedVariables false
set_option linter.unusedSimpArgs false

theorem same_no (A B : Option Addr) (c d : Nat) (xs ys : List Int) (w : World) (hne : xs ≠ ys) (hx : ReadsInt w .u8 A xs.length xs) (hy : ReadsInt w .u8 B ys.length ys) :
    Calls Try.prog 38 #[.slice A xs.length c, .slice B ys.length d] w fun e w' => e = .returned (.bool false) ∧ Below w.heap.size w w' := by
  have h := S.Same_any A B c d xs ys w hx hy hx.2.1 hy.2.1
  rw [decide_eq_false hne] at h
  exact h.mono fun _ _ ⟨h1, h2⟩ => ⟨h1, drew_below h2⟩
theorem same_yes (A B : Option Addr) (c d : Nat) (xs : List Int) (w : World) (hx : ReadsInt w .u8 A xs.length xs) (hy : ReadsInt w .u8 B xs.length xs) :
    Calls Try.prog 38 #[.slice A xs.length c, .slice B xs.length d] w fun e w' => e = .returned (.bool true) ∧ Below w.heap.size w w' := same_b A B c d xs w hx hy hx.2.1
theorem left_b (g : Nat) (B : Option Addr) (d : Nat) (xs : List Int) (w : World) (hx : ReadsInt w .u8 (some ⟨g, 0, none⟩) (xs.length + 3) (S.wid xs)) (hy : ReadsInt w .u8 B xs.length xs) (hn : xs.length ≤ 140737488351232) :
    Calls Try.prog 40 #[.slice (some ⟨g, 0, none⟩) xs.length (xs.length + 3), .slice B xs.length d] w fun e w' => e = .returned (.bool true) ∧ Below w.heap.size w w' :=
  (S.Left_any g B d xs w hx hy hn).mono fun _ _ ⟨h1, h2⟩ => ⟨h1, drew_below h2⟩
theorem wide_b (A : Option Addr) (c : Nat) (xs : List Int) (w : World) (hx : ReadsInt w .u8 A xs.length xs) (hn : xs.length ≤ 140737488351232) :
    Calls Try.prog 33 #[.slice A xs.length c] w fun e w' => (∃ g, e = .returned (.slice (some ⟨g, 0, none⟩) xs.length (xs.length + 3)) ∧ ReadsInt w' .u8 (some ⟨g, 0, none⟩) (xs.length + 3) (S.wid xs)) ∧ Below w.heap.size w w' :=
  (S.Wide_any A c xs w hx hn).mono fun _ _ ⟨g, h1, h2, h3⟩ => ⟨⟨g, h1, own_reads' h2⟩, h3⟩
theorem u64_nat {n : Int} (h : (Lit.int .u64 n).wf = true) : ∃ k : Nat, n = k ∧ k < 18446744073709551616 := by
  obtain ⟨h1, h2⟩ := bounds_u64 h
  exact ⟨n.toNat, by omega, by omega⟩
/-- a call of Put, its row under a name -/
def PutN (s : Nat) (n : Nat) (X : List Int) (k : Int) : Prop := ∀ w : World, Calls Try.prog 42 #[.int .u64 (n : Int), .int .i64 (s : Int)] w fun e w' => (∃ A c, e = .returned (.tuple #[.slice A X.length c, .int .i64 k]) ∧ Byts w.heap.size w' A c X) ∧ Below w.heap.size w w'
theorem put_n {n s : Nat} {X : List Int} {k : Int} (hn : n < 18446744073709551616) (hs : s ≤ 8) (h : puts n s = (X, k)) : PutN s n X k := fun w => by
  have h2 := Put_all n hn s (by omega) w
  simp only [PutP, h] at h2
  exact h2

set_option maxRecDepth 100000 in
set_option maxHeartbeats 1000000 in
theorem one_any (n m : Nat) (hn : n < 18446744073709551616) (hm : m < 18446744073709551616) (z : Int) (hz : 0 ≤ z ∧ z ≤ 255) (w : World) :
    Calls Try.prog 5 #[.int .u64 (n : Int), .int .u64 (m : Int), .int .u8 z] w fun e w' => e = .returned (.bool true) ∧ Below w.heap.size w w' := by
  obtain ⟨K, hK⟩ : ∃ K : Nat, 1 + z % 8 = (K : Int) := ⟨(1 + z % 8).toNat, by omega⟩
  have hK1 : 1 ≤ K := by omega
  have hK8 : K ≤ 8 := by omega
  obtain ⟨z0, z1⟩ := hz
  have HB := Lib.hid (Below.refl w.heap.size w)
  have big : ∀ x : Nat, x < 18446744073709551616 → 256 ^ K ≤ x → K < 8 := fun x hx h => by
    refine Nat.lt_of_not_le fun h8 => ?_
    have h3 : 256 ^ 8 ≤ 256 ^ K := Nat.pow_le_pow_right (by decide) h8
    omega
  rcases (by omega : (n < 256 ^ K ∧ m < 256 ^ K) ∨ 256 ^ K ≤ n ∨ (n < 256 ^ K ∧ 256 ^ K ≤ m)) with ⟨h1, h2⟩ | h1 | ⟨h1, h2⟩
  · obtain ⟨X, hX⟩ : ∃ X, X = putb n K := ⟨_, rfl⟩
    obtain ⟨Y, hY⟩ : ∃ Y, Y = putb m K := ⟨_, rfl⟩
    have P1 := Lib.hid (put_n hn hK8 (by rw [puts_ok hK1 hK8 h1, hX]) : PutN K n X 0)
    have P2 := Lib.hid (put_n hm hK8 (by rw [puts_ok hK1 hK8 h2, hY]) : PutN K m Y 0)
    by_cases h : n = m
    · obtain rfl : X = Y := by rw [hX, hY, h]
      have hq : ((n : Int) == (m : Int)) = true := by simp [h]
      clear h h1 h2 hX hY hn hm big
      go_enter Try.func5, Try.ntmps5
      go_wp2_with (first
        | (go_at_call_of 42 (Value.int .u64 (n : Int)); refine (P1.out _).mono ?_; rintro e w1 ⟨⟨A1, c1, rfl, o1⟩, hb1⟩; have O1 := Lib.hid o1; replace HB := Lib.hid (below_ext HB.out hb1); clear hb1)
        | (go_at_call 42; refine (P2.out _).mono ?_; rintro e w2 ⟨⟨A2, c2, rfl, o2⟩, hb2⟩; have O2 := Lib.hid o2; replace O1 := Lib.hid (O1.out.below hb2); replace HB := Lib.hid (below_ext HB.out hb2); clear hb2)
        | (go_at_call 38; refine (same_yes A1 A2 c1 c2 X _ O1.out.reads O2.out.reads).mono ?_; rintro e w3 ⟨rfl, hb3⟩; replace O1 := Lib.hid (O1.out.below hb3); replace O2 := Lib.hid (O2.out.below hb3); replace HB := Lib.hid (below_ext HB.out hb3); clear hb3)
        | (go_at_call 32; refine (lives_any _).mono ?_; rintro e w4 ⟨rfl, hb4⟩; replace HB := Lib.hid (below_ext HB.out hb4); clear hb4))
      go_ret
      exact ⟨ret_b (by simp), HB.out⟩
    · have HN := Lib.hid (show X ≠ Y from fun e => h (putb_inj h1 h2 (by rw [← hX, ← hY, e])))
      have hq : ((n : Int) == (m : Int)) = false := by simp; omega
      clear h h1 h2 hX hY hn hm big
      go_enter Try.func5, Try.ntmps5
      go_wp2_with (first
        | (go_at_call_of 42 (Value.int .u64 (n : Int)); refine (P1.out _).mono ?_; rintro e w1 ⟨⟨A1, c1, rfl, o1⟩, hb1⟩; have O1 := Lib.hid o1; replace HB := Lib.hid (below_ext HB.out hb1); clear hb1)
        | (go_at_call 42; refine (P2.out _).mono ?_; rintro e w2 ⟨⟨A2, c2, rfl, o2⟩, hb2⟩; have O2 := Lib.hid o2; replace O1 := Lib.hid (O1.out.below hb2); replace HB := Lib.hid (below_ext HB.out hb2); clear hb2)
        | (go_at_call 38; refine (same_no A1 A2 c1 c2 X Y _ HN.out O1.out.reads O2.out.reads).mono ?_; rintro e w3 ⟨rfl, hb3⟩; replace O1 := Lib.hid (O1.out.below hb3); replace O2 := Lib.hid (O2.out.below hb3); replace HB := Lib.hid (below_ext HB.out hb3); clear hb3)
        | (go_at_call 32; refine (lives_any _).mono ?_; rintro e w4 ⟨rfl, hb4⟩; replace HB := Lib.hid (below_ext HB.out hb4); clear hb4))
      go_ret
      exact ⟨ret_b (by simp), HB.out⟩
  · have hK9 := big n hn h1
    have h3 := puts_bad h1
    have P1 := Lib.hid (put_n hn hK8 h3 : PutN K n [] 2)
    obtain ⟨⟨Y, k⟩, hY⟩ : ∃ Y, Y = puts m K := ⟨_, rfl⟩
    have P2 := Lib.hid (put_n hm hK8 hY.symm : PutN K m Y k)
    clear h1 h3 hY hn hm big
    go_enter Try.func5, Try.ntmps5
    go_wp2_with (first
      | (go_at_call_of 42 (Value.int .u64 (n : Int)); refine (P1.out _).mono ?_; rintro e w1 ⟨⟨A1, c1, rfl, o1⟩, hb1⟩; have O1 := Lib.hid o1; replace HB := Lib.hid (below_ext HB.out hb1); clear hb1)
      | (go_at_call 42; refine (P2.out _).mono ?_; rintro e w2 ⟨⟨A2, c2, rfl, o2⟩, hb2⟩; have O2 := Lib.hid o2; replace O1 := Lib.hid (O1.out.below hb2); replace HB := Lib.hid (below_ext HB.out hb2); clear hb2)
      | (go_at_call 32; refine (lives_any _).mono ?_; rintro e w3 ⟨rfl, hb3⟩; replace HB := Lib.hid (below_ext HB.out hb3); clear hb3))
    go_ret
    exact ⟨ret_b (by simp), HB.out⟩
  · have hK9 := big m hm h2
    have P1 := Lib.hid (put_n hn hK8 (puts_ok hK1 hK8 h1) : PutN K n (putb n K) 0)
    have P2 := Lib.hid (put_n hm hK8 (puts_bad h2) : PutN K m [] 2)
    clear h1 h2 hn hm big
    go_enter Try.func5, Try.ntmps5
    go_wp2_with (first
      | (go_at_call_of 42 (Value.int .u64 (n : Int)); refine (P1.out _).mono ?_; rintro e w1 ⟨⟨A1, c1, rfl, o1⟩, hb1⟩; have O1 := Lib.hid o1; replace HB := Lib.hid (below_ext HB.out hb1); clear hb1)
      | (go_at_call 42; refine (P2.out _).mono ?_; rintro e w2 ⟨⟨A2, c2, rfl, o2⟩, hb2⟩; have O2 := Lib.hid o2; replace O1 := Lib.hid (O1.out.below hb2); replace HB := Lib.hid (below_ext HB.out hb2); clear hb2)
      | (go_at_call 32; refine (lives_any _).mono ?_; rintro e w3 ⟨rfl, hb3⟩; replace HB := Lib.hid (below_ext HB.out hb3); clear hb3))
    go_ret
    exact ⟨ret_b (by simp), HB.out⟩
theorem one_any' (n : Int) (wn : (Lit.int .u64 n).wf = true) (m : Int) (wm : (Lit.int .u64 m).wf = true) (z : Int) (wz : (Lit.int .u8 z).wf = true) (w : World) :
    Calls Try.prog 5 #[.int .u64 n, .int .u64 m, .int .u8 z] w fun e w' => e = .returned (.bool true) ∧ Below w.heap.size w w' := by
  obtain ⟨n, rfl, hn⟩ := u64_nat wn
  obtain ⟨m, rfl, hm⟩ := u64_nat wm
  obtain ⟨h1, h2⟩ := bounds_u8 wz
  exact one_any n m hn hm z (by omega) w
set_option maxRecDepth 100000 in
set_option maxHeartbeats 1000000 in
theorem numbers_any (n : Nat) (hn : n < 18446744073709551616) (s : Int) (hs : -9223372036854775808 ≤ s ∧ s ≤ 9223372036854775807) (A : Option Addr) (cap : Nat) (xs : List Int) (a : Int) (ha : -9223372036854775808 ≤ a ∧ a ≤ 9223372036854775807)
    (hw : ∀ x ∈ xs, (Lit.int .u8 x).wf = true) (hlen : xs.length ≤ 140737488351232) (hl : xs.length ≤ cap) (hc : cap ≤ 9223372036854775807) (w : World) (hr : ReadsInt w .u8 A xs.length xs) :
    Calls Try.prog 6 #[.int .u64 (n : Int), .int .i64 s, .slice A xs.length cap, .int .i64 a] w fun e w' => e = .returned (.bool true) ∧ Below w.heap.size w w' := by
  have HB := Lib.hid (Below.refl w.heap.size w)
  have HR := Lib.hid hr
  have HN := Lib.hid hlen
  obtain ⟨⟨X, k⟩, hX⟩ : ∃ X, X = puts n s := ⟨_, rfl⟩
  have P1 : Hid (∀ w : World, Calls Try.prog 42 #[.int .u64 (n : Int), .int .i64 s] w fun e w' => (∃ A c, e = .returned (.tuple #[.slice A X.length c, .int .i64 k]) ∧ Byts w.heap.size w' A c X) ∧ Below w.heap.size w w') := Lib.hid fun w => by
    have h2 := Put_all n hn s hs w
    simp only [PutP, ← hX] at h2
    exact h2
  have P2 : Hid (∀ w : World, Calls Try.prog 43 #[.int .u64 (n : Int), .int .i64 s] w fun e w' => (∃ A c, e = .returned (.tuple #[.slice A X.length c, .int .i64 k]) ∧ Byts w.heap.size w' A c X) ∧ Below w.heap.size w w') := Lib.hid fun w => by
    have h2 := rPut_all n hn s hs w
    simp only [PutP, ← hX] at h2
    exact h2
  obtain ⟨⟨G, j⟩, hG⟩ : ∃ G, G = gets xs a s := ⟨_, rfl⟩
  have P3 : Hid (∀ (A : Option Addr) (cap : Nat) (w : World), xs.length ≤ cap → cap ≤ 9223372036854775807 → ReadsInt w .u8 A xs.length xs → Calls Try.prog 44 #[.slice A xs.length cap, .int .i64 a, .int .i64 s] w fun e w' => e = .returned (.tuple #[.int .u64 (G : Int), .int .i64 j]) ∧ Below w.heap.size w w') := Lib.hid fun A cap w hl hc hr => by
    have h2 := Get_b A cap xs hw a s ha hs hl hc w hr
    simp only [← hG] at h2
    exact h2
  have P4 : Hid (∀ (w : World), ReadsInt w .u8 A xs.length xs → Calls Try.prog 45 #[.slice A xs.length cap, .int .i64 a, .int .i64 s] w fun e w' => e = .returned (.tuple #[.int .u64 (G : Int), .int .i64 j]) ∧ Below w.heap.size w w') := Lib.hid fun w hr => by
    have h2 := rGet_b A cap xs hw a s ha hs hl hc w hr
    simp only [← hG] at h2
    exact h2
  have hlen' : xs.length ≤ 140737488351232 := hlen
  clear hr hX hG hn hs ha hw hlen hc
  go_enter Try.func6, Try.ntmps6
  go_wp2_with (first
    | (go_at_call 33; refine (wide_b A cap xs _ HR.out HN.out).mono ?_; rintro e w1 ⟨⟨g, rfl, r1⟩, hb1⟩; have W1 := Lib.hid r1; replace HB := Lib.hid (below_ext HB.out hb1); clear hb1)
    | (go_at_call 42; refine (P1.out _).mono ?_; rintro e w2 ⟨⟨A1, c1, rfl, o1⟩, hb2⟩; have O1 := Lib.hid o1; replace W1 := Lib.hid (W1.out.below hb2); replace HB := Lib.hid (below_ext HB.out hb2); clear hb2)
    | (go_at_call 43; refine (P2.out _).mono ?_; rintro e w3 ⟨⟨A2, c2, rfl, o2⟩, hb3⟩; have O2 := Lib.hid o2; replace W1 := Lib.hid (W1.out.below hb3); replace O1 := Lib.hid (O1.out.below hb3); replace HB := Lib.hid (below_ext HB.out hb3); clear hb3)
    | (go_at_call 44; refine (P3.out _ _ _ (by omega) (by omega) (S.wid_reads W1.out)).mono ?_; rintro e w4 ⟨rfl, hb4⟩; replace W1 := Lib.hid (W1.out.below hb4); replace O1 := Lib.hid (O1.out.below hb4); replace O2 := Lib.hid (O2.out.below hb4); replace HB := Lib.hid (below_ext HB.out hb4); clear hb4)
    | (go_at_call 45; refine (P4.out _ (HR.out.below HB.out)).mono ?_; rintro e w5 ⟨rfl, hb5⟩; replace W1 := Lib.hid (W1.out.below hb5); replace O1 := Lib.hid (O1.out.below hb5); replace O2 := Lib.hid (O2.out.below hb5); replace HB := Lib.hid (below_ext HB.out hb5); clear hb5)
    | (go_at_call 38; refine (same_yes A1 A2 c1 c2 X _ O1.out.reads O2.out.reads).mono ?_; rintro e w6 ⟨rfl, hb6⟩; replace W1 := Lib.hid (W1.out.below hb6); replace O1 := Lib.hid (O1.out.below hb6); replace O2 := Lib.hid (O2.out.below hb6); replace HB := Lib.hid (below_ext HB.out hb6); clear hb6)
    | (go_at_call 40; refine (left_b g A cap xs _ W1.out (HR.out.below HB.out) HN.out).mono ?_; rintro e w7 ⟨rfl, hb7⟩; replace W1 := Lib.hid (W1.out.below hb7); replace HB := Lib.hid (below_ext HB.out hb7); clear hb7)
    | (go_at_call 32; refine (lives_any _).mono ?_; rintro e w8 ⟨rfl, hb8⟩; replace W1 := Lib.hid (W1.out.below hb8); replace HB := Lib.hid (below_ext HB.out hb8); clear hb8))
  go_ret
  exact ⟨ret_b (by simp), HB.out⟩
theorem numbers_any' (n : Int) (wn : (Lit.int .u64 n).wf = true) (s : Int) (ws : (Lit.int .i64 s).wf = true) (A : Option Addr) (cap : Nat) (l : List Int) {w : World} (hr : ReadsInt w .u8 A l.length l) (y : l.length * 1 ≤ 140737488351232) (hw : ∀ x ∈ l, (Lit.int .u8 x).wf = true) (hc : l.length ≤ cap) (hcap : cap ≤ 9223372036854775807) (a : Int) (wa : (Lit.int .i64 a).wf = true) :
    Calls Try.prog 6 #[.int .u64 n, .int .i64 s, .slice A l.length cap, .int .i64 a] w fun e w' => e = .returned (.bool true) ∧ Below w.heap.size w w' := by
  obtain ⟨n, rfl, hn⟩ := u64_nat wn
  exact numbers_any n hn s (bounds_i64 ws) A cap l a (bounds_i64 wa) hw (by omega) hc hcap w hr
end Go.Proofs.Ytdchcggllcgokaa.U
