/-
  Bytes copied; bytes with room behind them: ashlarref00.Copy, Wide, Left.
-/
import Derived.Test.YtdchcggllcgokaaDoorSame
namespace Go.Proofs.YtdchcggllcgokaaDoor.S
open Go.RowKit Go.Proofs.YtdchcggllcgokaaDoor.L Go.Proofs.YtdchcggllcgokaaDoorW.PrintWords
set_option linter.unusedVariables false

theorem info_u8 : (Tryd.prog.info? 5).map (fun i => (i.zero, i.size, i.bytes)) = some (some (.int .u8 0), 1, 1) := by kernel_rfl
theorem Copy_any (A : Option Addr) (c : Nat) (xs : List Int) (w : World) (hx : ReadsInt w .u8 A xs.length xs) (hn : xs.length ≤ 140737488355328) :
    Calls Tryd.prog 30 #[.slice A xs.length c] w fun e w' => ∃ v, e = .returned v ∧ w'.ownsRow w.heap.size 5 1 v xs.length (nums .u8 xs) ∧ Below w.heap.size w w' := by
  have HX := Lib.hid hx
  have HO := Lib.hid (World.ownsRow_nil w w.heap.size 5 1)
  have hl5 : (([] : List Int).length + xs.length) * 1 ≤ 140737488355328 := by simpa using hn
  clear hx
  go_enter Tryd.func30, Tryd.ntmps30
  go_wp2_with (first
    | (at_builtin; refine print_append_row (w0 := w) w.heap.size rfl (.tmp 4) (.tmp 5) 34 5 .u8 1 rfl Tryd.underlying34 info_u8 (by decide) _ [] xs A xs.length c rfl rfl HO.out HX.out (Below.refl _ _) (Nat.le_refl _) hl5 ?_; intro v1 w5 ho5 hb5 hg5 hat5))
  go_ret
  exact ⟨_, rfl, ho5, hb5⟩

/-- the bytes of Wide: those that came, and three 7s behind -/
def wid (xs : List Int) : List Int := xs ++ [7, 7, 7]
def mid (xs : List Int) (q : Nat) : List Int := xs.take q ++ List.replicate (xs.length + 3 - q) 0
theorem mid_set (xs : List Int) (q : Nat) (h : q < xs.length) : (mid xs q).set q (xs.getD q 0) = mid xs (q + 1) := by
  unfold mid
  rw [List.set_append_right _ _ (by simp; omega), List.length_take, Nat.min_eq_left (by omega), Nat.sub_self]
  obtain ⟨d, hd⟩ : ∃ d, xs.length + 3 - q = d + 1 := ⟨xs.length + 3 - q - 1, by omega⟩
  rw [hd, List.replicate_succ, List.set_cons_zero, List.take_succ_eq_append_getElem h, show xs.length + 3 - (q + 1) = d by omega]
  rw [List.append_assoc, List.singleton_append, List.getD_eq_getElem?_getD, List.getElem?_eq_getElem h, Option.getD_some]
def end_ (xs : List Int) (q : Nat) : List Int := xs ++ List.replicate q 7 ++ List.replicate (3 - q) 0
theorem end_set (xs : List Int) (q : Nat) (h : q < 3) : (end_ xs q).set (xs.length + q) 7 = end_ xs (q + 1) := by
  unfold end_
  rw [List.set_append_right _ _ (by simp), List.length_append, List.length_replicate, Nat.sub_self]
  obtain ⟨d, hd⟩ : ∃ d, 3 - q = d + 1 := ⟨3 - q - 1, by omega⟩
  rw [hd, List.replicate_succ, List.set_cons_zero, List.replicate_succ', show 3 - (q + 1) = d by omega]
  simp
theorem mid_end (xs : List Int) : mid xs xs.length = end_ xs 0 := by simp [mid, end_]
theorem end_wid (xs : List Int) : end_ xs 3 = wid xs := by simp [end_, wid, List.replicate]

end Go.Proofs.YtdchcggllcgokaaDoor.S
