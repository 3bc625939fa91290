/-
  Lists that are compared: ashlarref00.Same.
-/
import Derived.Test.YtdchcggllcgokaaProg
import Derived.Test.YtdchcggllcgokaaLib
namespace Go.Proofs.Ytdchcggllcgokaa.S
open Go.RowKit Go.Proofs.Ytdchcggllcgokaa.L Go.Proofs.YtdchcggllcgokaaW.PrintWords
set_option linter.unusedVariables false

theorem Same_any (A B : Option Addr) (c d : Nat) (xs ys : List Int) (w : World) (hx : ReadsInt w .u8 A xs.length xs) (hy : ReadsInt w .u8 B ys.length ys) (hn : xs.length ≤ 9223372036854775807) (hm : ys.length ≤ 9223372036854775807) :
    Calls Try.prog 38 #[.slice A xs.length c, .slice B ys.length d] w fun e w' => e = .returned (.bool (decide (xs = ys))) ∧ ∃ j, w' = w.drewN j := by
  by_cases hl : xs.length = ys.length
  · have HL := Lib.hid hl
    have hl2 : ((xs.length : Int) != (ys.length : Int)) = false := by rw [hl]; simp
    obtain ⟨n, hn2⟩ : ∃ n, n = xs.length := ⟨_, rfl⟩
    have HY := Lib.hid (hl ▸ hn2 : n = ys.length)
    rw [← hl, ← hn2] at hl2
    rw [← hn2] at hn hx ⊢
    rw [← hl, ← hn2] at hy hm ⊢
    have HN := Lib.hid hn2
    have HX := Lib.hid hx
    have HYR := Lib.hid hy
    clear hl hn2 hx hy
    go_enter Try.func38, Try.ntmps38
    go_wp2
    go_loopw [5] (fun i wr => ∃ q : Nat, q ≤ n ∧ i = .int .i64 q ∧ Hid (∀ j : Nat, j < q → rd xs j = rd ys j) ∧ Hid (∃ j, wr = w.drewN j)) (fun i _ => n - (intOf i).toNat)
    case atStart => exact ⟨0, Nat.zero_le _, rfl, Lib.hid (fun j hj => absurd hj (by omega)), Lib.hid ⟨0, rfl⟩⟩
    case round =>
      obtain ⟨q, hq, rfl, HA, HW⟩ := hrel
      obtain ⟨j, rfl⟩ := HW.out
      clear HW
      by_cases hlt : q < n
      · obtain ⟨ax, rfl, cx⟩ := HX.out.at_ (q : Int) (by omega) (by omega)
        obtain ⟨ay, rfl, cy⟩ := HYR.out.at_ (q : Int) (by omega) (by omega)
        simp only [Int.toNat_natCast] at cx cy
        have hi0 : (0 : Int) ≤ (q : Int) := by omega
        have hi1 : (q : Int) < (n : Int) := by omega
        by_cases he : rd xs q = rd ys q
        · have hb : (rd xs q != rd ys q) = false := by simp [he]
          have HE := Lib.hid he
          clear he
          go_wp2
          go_quiet (fail)
          go_wp2
          go_roundw
          case rel =>
            refine ⟨q + 1, by omega, by go_num, Lib.hid (fun i hi => ?_), Lib.hid ⟨_, rfl⟩⟩
            rcases Nat.lt_or_ge i q with h | h
            · exact HA.out i h
            · obtain rfl : i = q := by omega
              exact HE.out
          case measure => simp [intOf]; omega
        · have hb : (rd xs q != rd ys q) = true := by simpa using he
          have HB := Lib.hid (show false = decide (xs = ys) by symm; rw [decide_eq_false_iff_not]; intro h; exact he (by rw [h]))
          clear he
          go_wp2
          go_quiet (fail)
          go_wp2
          go_ret
          exact ⟨ret_b HB.out, _, by first | rfl | exact World.drewN_drewN _ _ _⟩
      · obtain rfl : q = n := by omega
        have HB := Lib.hid (show true = decide (xs = ys) by
          symm; rw [decide_eq_true_eq]
          refine List.ext_getElem (by rw [← HN.out, ← HY.out]) (fun i h1 h2 => ?_)
          have h3 := HA.out i (by rw [HN.out]; exact h1)
          simpa [rd, List.getD_eq_getElem?_getD, List.getElem?_eq_getElem h1, List.getElem?_eq_getElem h2] using h3)
        go_wp2
        go_ret
        exact ⟨ret_b HB.out, _, rfl⟩
  · have HB := Lib.hid (show false = decide (xs = ys) by symm; rw [decide_eq_false_iff_not]; intro h; exact hl (by rw [h]))
    have hl2 : ((xs.length : Int) != (ys.length : Int)) = true := by simp; omega
    clear hl
    go_enter Try.func38, Try.ntmps38
    go_wp2
    go_ret
    exact ⟨ret_b HB.out, 0, rfl⟩

end Go.Proofs.Ytdchcggllcgokaa.S
