/-
  ashlarref00.Spoil: all bytes are others, the room behind them, too.
-/
import Derived.Test.YtdchcggllcgokaaDoorNumL
namespace Go.Proofs.YtdchcggllcgokaaDoor.U
open Go.RowKit Go.Proofs.YtdchcggllcgokaaDoor.L Go.Proofs.YtdchcggllcgokaaDoorW.PrintWords
set_option linter.unusedVariables false
set_option linter.unusedSimpArgs false

/-- some bytes, all of the room -/
def Room (b : Nat) (W : World) (A : Option Addr) (c : Nat) : Prop := ∃ zs : List Int, (∀ x ∈ zs, (Lit.int .u8 x).wf = true) ∧ zs.length = c ∧ W.ownsRow b 5 1 (.slice A c c) c (nums .u8 zs)
theorem Room.below {b : Nat} {W W1 : World} {A : Option Addr} {c : Nat} (h : Room b W A c) (hb : Below W.heap.size W W1) : Room b W1 A c := by
  obtain ⟨zs, h1, h2, h3⟩ := h
  exact ⟨zs, h1, h2, pw_own_below h3 hb⟩
theorem Byts.room {b : Nat} {W : World} {A : Option Addr} {ys : List Int} (h : Byts b W A ys.length ys) (hw : ∀ x ∈ ys, (Lit.int .u8 x).wf = true) : Room b W A ys.length := ⟨ys, hw, rfl, h⟩
theorem Room.grown {b : Nat} {W W1 : World} {A : Option Addr} {c : Nat} {g : Option Nat} (h : Room b W A c) (hg : W.grownBy W1 g) (hne : ∀ k, g = some k → k < b) : Room b W1 A c := by
  obtain ⟨zs, h1, h2, h3⟩ := h
  refine ⟨zs, h1, h2, own_other h3 hg ?_⟩
  cases hk : Value.ownBlock (.slice A c c) with
  | none => exact .inl rfl
  | some k =>
    refine .inr fun e => ?_
    have := hne k e.symm
    have := own_base h3 k hk
    omega
theorem spoil_wf {zs : List Int} {c : Int} {q : Nat} (h : ∀ x ∈ zs, (Lit.int .u8 x).wf = true) (hc : 0 ≤ c ∧ c ≤ 255) : ∀ x ∈ zs.set q c, (Lit.int .u8 x).wf = true := fun x hx => by
  rcases List.mem_or_eq_of_mem_set hx with h1 | rfl
  · exact h x h1
  · exact WalkArith.wf_u8 (by omega)
end Go.Proofs.YtdchcggllcgokaaDoor.U
