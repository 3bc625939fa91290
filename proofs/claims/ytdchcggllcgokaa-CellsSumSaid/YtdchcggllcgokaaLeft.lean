/-
  ashlarref00.Left: what was handed in is as it was, the room behind it, too.
-/
import Derived.Test.YtdchcggllcgokaaWide
namespace Go.Proofs.Ytdchcggllcgokaa.S
open Go.RowKit Go.Proofs.Ytdchcggllcgokaa.L Go.Proofs.YtdchcggllcgokaaW.PrintWords
set_option linter.unusedVariables false

theorem wid_length (xs : List Int) : (wid xs).length = xs.length + 3 := by simp [wid]
theorem wid_front (xs : List Int) (q : Nat) (h : q < xs.length) : rd (wid xs) (q : Int) = rd xs q := by
  simp [rd, wid, List.getD_eq_getElem?_getD, List.getElem?_append_left h]
theorem wid_back (xs : List Int) (q : Nat) (h : q < 3) : rd (wid xs) ((xs.length + q : Nat) : Int) = 7 := by
  rw [rd, wid, Int.toNat_natCast, List.getD_eq_getElem?_getD, List.getElem?_append_right (by omega), Nat.add_sub_cancel_left]
  have : q = 0 ∨ q = 1 ∨ q = 2 := by omega
  rcases this with rfl | rfl | rfl <;> rfl
/-- What Wide made reads as what it was made of. -/
theorem wid_reads {w : World} {g : Nat} {xs : List Int} (h : ReadsInt w .u8 (some ⟨g, 0, none⟩) (xs.length + 3) (wid xs)) : ReadsInt w .u8 (some ⟨g, 0, none⟩) xs.length xs := by
  refine ⟨rfl, by have := h.2.1; omega, fun hp => ⟨_, rfl, fun j hj => ?_⟩⟩
  obtain ⟨ad, e, hc⟩ := h.2.2 (by omega)
  injection e with e; subst e
  rw [hc j (by omega)]
  have := wid_front xs j hj
  simp only [rd, Int.toNat_natCast] at this
  rw [this]

set_option maxHeartbeats 400000 in
theorem Left_any (g : Nat) (B : Option Addr) (d : Nat) (xs : List Int) (w : World) (hx : ReadsInt w .u8 (some ⟨g, 0, none⟩) (xs.length + 3) (wid xs)) (hy : ReadsInt w .u8 B xs.length xs) (hn : xs.length ≤ 140737488351232) :
    Calls Try.prog 40 #[.slice (some ⟨g, 0, none⟩) xs.length (xs.length + 3), .slice B xs.length d] w fun e w' => e = .returned (.bool true) ∧ ∃ j, w' = w.drewN j := by
  have HX := Lib.hid hx
  have A1 := Lib.hid (fun w1 (h : ∃ j, w1 = w.drewN j) => (Same_any (some ⟨g, 0, none⟩) B (xs.length + 3) d xs xs w (wid_reads hx) hy (by omega) (by omega)))
  obtain ⟨n, hnn⟩ : ∃ n, n = xs.length := ⟨_, rfl⟩
  have HN := Lib.hid hnn
  rw [← hnn] at hn A1 ⊢
  clear hnn hx hy
  go_enter Try.func40, Try.ntmps40
  go_wp2_with (first
    | (go_at_call 38; refine (A1.out _ ⟨0, rfl⟩).mono ?_; rintro e w1 ⟨rfl, j1, rfl⟩; rw [decide_eq_true rfl]))
  go_loopw [6] (fun i wr => ∃ x : Nat, x ≤ 3 ∧ i = .int .i64 ((n + x : Nat) : Int) ∧ Hid (∃ j, wr = w.drewN j)) (fun i _ => n + 3 - (intOf i).toNat)
  case atStart => exact ⟨0, by omega, rfl, Lib.hid ⟨_, rfl⟩⟩
  case round =>
    obtain ⟨x, hx, rfl, HW⟩ := hrel
    obtain ⟨j, rfl⟩ := HW.out
    clear HW
    by_cases hl : x < 3
    · obtain ⟨ad, e0, cx⟩ := HX.out.at_ ((n + x : Nat) : Int) (by omega) (by rw [HN.out]; omega)
      injection e0 with e0
      subst e0
      rw [show n + x = xs.length + x by rw [HN.out], wid_back xs x hl, Int.toNat_natCast, add_plain] at cx
      rw [show xs.length + x = n + x by rw [HN.out]] at cx
      go_wp2
      go_roundw
      case rel => exact ⟨x + 1, by omega, by go_num, Lib.hid ⟨_, rfl⟩⟩
      case measure => simp [intOf]; omega
    · obtain rfl : x = 3 := by omega
      go_wp2
      go_ret
      exact ⟨rfl, _, rfl⟩
end Go.Proofs.Ytdchcggllcgokaa.S
