/-
  Bytes copied; bytes with room behind them: ashlarref00.Copy, Wide, Left.
-/
import Derived.Test.YtdchcggllcgokaaSame
namespace Go.Proofs.Ytdchcggllcgokaa.S
open Go.RowKit Go.Proofs.Ytdchcggllcgokaa.L Go.Proofs.YtdchcggllcgokaaW.PrintWords
set_option linter.unusedVariables false

theorem info_u8 : (Try.prog.info? 5).map (fun i => (i.zero, i.size, i.bytes)) = some (some (.int .u8 0), 1, 1) := by kernel_rfl
theorem Copy_any (A : Option Addr) (c : Nat) (xs : List Int) (w : World) (hx : ReadsInt w .u8 A xs.length xs) (hn : xs.length ≤ 140737488355328) :
    Calls Try.prog 41 #[.slice A xs.length c] w fun e w' => ∃ v, e = .returned v ∧ w'.ownsRow w.heap.size 5 1 v xs.length (nums .u8 xs) ∧ Below w.heap.size w w' := by
  have HX := Lib.hid hx
  have HO := Lib.hid (World.ownsRow_nil w w.heap.size 5 1)
  have hl5 : (([] : List Int).length + xs.length) * 1 ≤ 140737488355328 := by simpa using hn
  clear hx
  go_enter Try.func41, Try.ntmps41
  go_wp2_with (first
    | (at_builtin; refine print_append_row (w0 := w) w.heap.size rfl (.tmp 4) (.tmp 5) 22 5 .u8 1 rfl Try.underlying22 info_u8 (by decide) _ [] xs A xs.length c rfl rfl HO.out HX.out (Below.refl _ _) (Nat.le_refl _) hl5 ?_; intro v1 w5 ho5 hb5 hg5 hat5))
  go_ret
  exact ⟨_, rfl, ho5, hb5⟩

/-- the bytes of Wide: those that came, and three 7s behind -/
def wid (xs : List Int) : List Int := xs ++ [7, 7, 7]
def mid (xs : List Int) (q : Nat) : List Int := xs.take q ++ List.replicate (xs.length + 3 - q) 0
theorem mid_set (xs : List Int) (q : Nat) (h : q < xs.length) : (mid xs q).set q (xs.getD q 0) = mid xs (q + 1) := by
  unfold mid
  rw [List.set_append_right _ _ (by simp; omega), List.length_take, Nat.min_eq_left (by omega), Nat.sub_self]
  obtain ⟨d, hd⟩ : ∃ d, xs.length + 3 - q = d + 1 := ⟨xs.length + 3 - q - 1, by omega⟩
  rw [hd, List.replicate_succ, List.set_cons_zero, List.take_succ_eq_append_getElem h, show xs.length + 3 - (q + 1) = d by omega]
  rw [List.append_assoc, List.singleton_append, List.getD_eq_getElem?_getD, List.getElem?_eq_getElem h, Option.getD_some]
def end_ (xs : List Int) (q : Nat) : List Int := xs ++ List.replicate q 7 ++ List.replicate (3 - q) 0
theorem end_set (xs : List Int) (q : Nat) (h : q < 3) : (end_ xs q).set (xs.length + q) 7 = end_ xs (q + 1) := by
  unfold end_
  rw [List.set_append_right _ _ (by simp), List.length_append, List.length_replicate, Nat.sub_self]
  obtain ⟨d, hd⟩ : ∃ d, 3 - q = d + 1 := ⟨3 - q - 1, by omega⟩
  rw [hd, List.replicate_succ, List.set_cons_zero, List.replicate_succ', show 3 - (q + 1) = d by omega]
  simp
theorem mid_end (xs : List Int) : mid xs xs.length = end_ xs 0 := by simp [mid, end_]
theorem end_wid (xs : List Int) : end_ xs 3 = wid xs := by simp [end_, wid, List.replicate]

set_option maxHeartbeats 400000 in
theorem Wide_any (A : Option Addr) (c : Nat) (xs : List Int) (w : World) (hx : ReadsInt w .u8 A xs.length xs) (hn : xs.length ≤ 140737488351232) :
    Calls Try.prog 33 #[.slice A xs.length c] w fun e w' => ∃ g, e = .returned (.slice (some ⟨g, 0, none⟩) xs.length (xs.length + 3)) ∧ w'.ownsRow w.heap.size 5 1 (.slice (some ⟨g, 0, none⟩) (xs.length + 3) (xs.length + 3)) (xs.length + 3) (nums .u8 (wid xs)) ∧ Below w.heap.size w w' := by
  have HX := Lib.hid hx
  clear hx
  obtain ⟨n, hnn⟩ : ∃ n, n = xs.length := ⟨_, rfl⟩
  have HN := Lib.hid hnn
  rw [← hnn] at hn ⊢
  clear hnn
  have hmk0 := fun W => run_make_row' (P := Try.prog) 22 5 (.int .u8 0) 1 Try.underlying22 info_u8 rfl .i64 .i64 (n + 3) (by omega) (by omega) W
  have hmk : ∀ W, (Instr.makeSlice 22 (.int .i64 ((n : Int) + 3)) (.int .i64 ((n : Int) + 3))).run Try.prog W = .ok (.slice (some ⟨W.heap.size, 0, none⟩) (n + 3) (n + 3)) (W.alloc (.cells (madeCells #[.int .u8 0] (n + 3)) 5)) := fun W => by
    have := hmk0 W
    rwa [show ((n + 3 : Nat) : Int) = (n : Int) + 3 by omega] at this
  clear hmk0
  go_enter Try.func33, Try.ntmps33
  go_wp2
  go_loopw [4] (fun i wr => ∃ q : Nat, q ≤ n ∧ i = .int .i64 q ∧ Hid (wr.ownsRow w.heap.size 5 1 (.slice (some ⟨w.heap.size, 0, none⟩) (n + 3) (n + 3)) (n + 3) (nums .u8 (mid xs q))) ∧ Hid (Below w.heap.size w wr)) (fun i _ => n - (intOf i).toNat)
  case atStart => exact ⟨0, Nat.zero_le _, rfl, Lib.hid (by simpa [mid, ← HN.out] using own_made w w.heap.size 5 .u8 (n + 3) (Nat.le_refl _) (by omega)), Lib.hid (below_alloc (Below.refl _ _) _)⟩
  case round =>
    obtain ⟨q, hq, rfl, HO, HB⟩ := hrel
    by_cases hlt : q < n
    · obtain ⟨ad, rfl, cx⟩ := (HX.out.below HB.out).at_ (q : Int) (by omega) (by rw [← HN.out]; omega)
      simp only [Int.toNat_natCast] at cx
      obtain ⟨o1, o2⟩ := own_at' HO.out q (by omega)
      go_wp2
      go_roundw
      case rel =>
        refine ⟨q + 1, by omega, by go_num, Lib.hid ?_, Lib.hid (HB.out.setCell (by simp) _)⟩
        have h := (own_store HO.out (q : Int) (rd xs q)).1
        simp only [Int.toNat_natCast] at h
        rw [rd, Int.toNat_natCast, mid_set xs q (by rw [← HN.out]; exact hlt)] at h
        exact h
      case measure => simp [intOf]; omega
    · obtain rfl : q = n := by omega
      go_wp2
      obtain ⟨w2, rfl⟩ : ∃ w2 : World, w2 = wr := ⟨_, rfl⟩
      go_loopw [5] (fun i wr => ∃ x : Nat, x ≤ 3 ∧ i = .int .i64 ((q + x : Nat) : Int) ∧ Hid (wr.ownsRow w.heap.size 5 1 (.slice (some ⟨w.heap.size, 0, none⟩) (q + 3) (q + 3)) (q + 3) (nums .u8 (end_ xs x))) ∧ Hid (Below w.heap.size w wr)) (fun i _ => q + 3 - (intOf i).toNat)
      case atStart => exact ⟨0, by omega, rfl, Lib.hid (by have h := HO.out; rw [HN.out, mid_end, ← HN.out] at h; exact h), HB⟩
      case round =>
        obtain ⟨x, hx, rfl, HO2, HB2⟩ := hrel
        clear HO HB
        by_cases hl : x < 3
        · obtain ⟨o1, o2⟩ := own_at' HO2.out (q + x) (by omega)
          go_wp2
          go_roundw
          case rel =>
            refine ⟨x + 1, by omega, by go_num, Lib.hid ?_, Lib.hid (HB2.out.setCell (by simp) _)⟩
            have h := (own_store HO2.out ((q + x : Nat) : Int) 7).1
            simp only [Int.toNat_natCast] at h
            rw [show q + x = xs.length + x by rw [HN.out], end_set xs x hl] at h
            rw [show q + x = xs.length + x by rw [HN.out]]
            exact h
          case measure => simp [intOf]; omega
        · obtain rfl : x = 3 := by omega
          go_wp2
          go_ret
          exact ⟨w.heap.size, rfl, by rw [← end_wid]; exact HO2.out, HB2.out⟩
end Go.Proofs.Ytdchcggllcgokaa.S
