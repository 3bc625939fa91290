/-
  The closed facts of a row that hang on the translation's head line, reckoned without laying that line open sign by sign (a head that names many roots is long).
-/
import Derived.Test.YtdchcggllcgokaaChecked
import Derived.JoinedOf
import Derived.KernelRfl
namespace Go.Proofs.Ytdchcggllcgokaa.Head
open Go
theorem of_list {s : String} {l : List Char} (h : s = String.ofList l) : s.toList = l := by rw [h, String.toList_ofList]
set_option maxRecDepth 100000 in
theorem order : ∃ T, behindMainWord (wordsSigns Try.prog.initOrder.toList) = "cut".toList :: T := ⟨(behindMainWord (wordsSigns Try.prog.initOrder.toList)).tail, by
  rw [of_list (s := Try.prog.initOrder) rfl]
  kernel_rfl⟩
theorem make_cut {P : Program} {T : List (List Char)} (h : behindMainWord (wordsSigns P.initOrder.toList) = "cut".toList :: T) : P.make = some .cut := by
  unfold Program.make; rw [h]; rfl
theorem lifts_cut {P : Program} {T : List (List Char)} (h : behindMainWord (wordsSigns P.initOrder.toList) = "cut".toList :: T) : P.liftsFinal = false := by
  unfold Program.liftsFinal Program.headLifts; rw [h]; rfl
theorem enter_cut {P : Program} {T : List (List Char)} (h : behindMainWord (wordsSigns P.initOrder.toList) = "cut".toList :: T) (h1 : P.laysLater = false) (h2 : P.bearsReflect = false) (h3 : P.doorFits [] = true) : P.mayEnter = true := by
  unfold Program.mayEnter; rw [h]
  have e : stripLifts liftWords ("cut".toList :: T) = ([], "cut".toList :: T) := rfl
  simp only [e, h1, h2, h3]
  rfl
theorem enters : Try.prog.mayEnter = true := by
  obtain ⟨T, h⟩ := order
  exact enter_cut h (by as_aux_lemma => kernel_rfl) (by as_aux_lemma => kernel_rfl) (by as_aux_lemma => kernel_rfl)
theorem makes : Try.prog.make = some .cut := by
  obtain ⟨T, h⟩ := order
  exact make_cut h
theorem lifts : Try.prog.liftsFinal = false := by
  obtain ⟨T, h⟩ := order
  exact lifts_cut h
theorem and_mk {a b : Bool} (h1 : a = true) (h2 : b = true) : (a && b) = true := by rw [h1, h2]; rfl
theorem lifted_mk {b : Bool} (h : b = false) : (b == Try.prog.liftsFinal) = true := by rw [h, lifts]; rfl
theorem make_mk {m : Make} (h : m = .cut) : (Try.prog.make == some m) = true := by rw [h, makes]; decide
end Go.Proofs.Ytdchcggllcgokaa.Head
