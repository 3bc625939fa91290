/-
  Structs and arrays that came in: their cells, by their types.
-/
import Derived.WalkKit
import Derived.ProofKit
import Derived.OpenShut
import Derived.KernelRfl
namespace Go.Proofs.Ytdchcggllcgokaa.O
open Go.WideShapes Go.RowKit
set_option linter.unusedVariables false
section
variable {P : Program} {w : World} {r : Reach} {base : Nat} {t u : TypeId} {v : Value}
theorem agg_cells {d : TypeDesc} {ts : List TypeId} (ht : P.underlying t = some d) (hd : (match d with | .struct _ | .array _ _ => true | _ => false) = true) (hts : P.cellTypes P.depth t = some ts)
    (hsz : P.cellsOf t = ts.length) (h : Value.okWide P w r base t v) : ∃ cs : Array Value, v = .agg cs ∧ cs.size = ts.length ∧ ∀ (i : Nat) (x : Value), cs[i]? = some x → ∃ u : TypeId, ts[i]? = some u ∧ Cell.okWide P w r base u x := by
  have h' : ∃ cs, v = .agg cs ∧ cs.size = P.cellsOf t ∧ Row.okWide P w r base t cs := by
    unfold Value.okWide at h
    rw [ht] at h
    cases d <;> first | exact h | cases hd
  obtain ⟨cs, rfl, hs, ts', hts', _, hall⟩ := h'
  rw [hts] at hts'
  injection hts' with hts'
  subst hts'
  refine ⟨cs, rfl, by omega, fun i x hx => ?_⟩
  have hi : i < cs.size := (Array.getElem?_eq_some_iff.1 hx).1
  obtain ⟨u, hu, hc⟩ := hall i x hx
  rw [Nat.mod_eq_of_lt (by omega)] at hu
  exact ⟨u, hu, hc⟩
theorem cell_int {k : IntKind} (hu : P.underlying u = some (.int k)) (h : Cell.okWide P w r base u v) : ∃ n, v = .int k n ∧ (Lit.int k n).wf = true := by
  unfold Cell.okWide at h
  rw [hu] at h
  unfold Cell.ok at h
  rw [hu] at h
  cases v <;> simp at h
  rename_i k' n
  obtain ⟨rfl, h⟩ := h
  exact ⟨n, rfl, by simpa [Lit.wf, IntKind.has] using h⟩
theorem cell_bool (hu : P.underlying u = some .bool) (h : Cell.okWide P w r base u v) : ∃ b, v = .bool b := by
  unfold Cell.okWide at h
  rw [hu] at h
  unfold Cell.ok at h
  rw [hu] at h
  cases v <;> simp at h
  exact ⟨_, rfl⟩
theorem cell_at {cs : Array Value} {ts : List TypeId} (hs : cs.size = ts.length) (hc : ∀ (i : Nat) (x : Value), cs[i]? = some x → ∃ u : TypeId, ts[i]? = some u ∧ Cell.okWide P w r base u x) (i : Nat) (u : TypeId) (hi : ts[i]? = some u) :
    ∃ x, cs[i]? = some x ∧ Cell.okWide P w r base u x := by
  have h1 : i < ts.length := (List.getElem?_eq_some_iff.1 hi).1
  have h2 : i < cs.size := by omega
  obtain ⟨u', hu, hx⟩ := hc i _ (Array.getElem?_eq_getElem h2)
  rw [hi] at hu
  injection hu with hu
  subst hu
  exact ⟨_, Array.getElem?_eq_getElem h2, hx⟩
/-- An array of whole numbers. -/
theorem arr_ints {k : IntKind} {n : Nat} {e : TypeId} (ht : P.underlying t = some (.array n e)) (hts : P.cellTypes P.depth t = some (List.replicate n e)) (hsz : P.cellsOf t = n) (he : P.underlying e = some (.int k))
    (h : Value.okWide P w r base t v) : ∃ xs : List Int, v = .agg (xs.map fun x => Value.int k x).toArray ∧ xs.length = n ∧ ∀ x ∈ xs, (Lit.int k x).wf = true := by
  obtain ⟨cs, rfl, hs, hc⟩ := agg_cells ht rfl hts (by simpa using hsz) h
  rw [List.length_replicate] at hs
  have hall : ∀ i (hi : i < cs.size), ∃ m, cs[i] = .int k m ∧ (Lit.int k m).wf = true := fun i hi => by
    obtain ⟨u, hu, hx⟩ := hc i _ (Array.getElem?_eq_getElem hi)
    have : u = e := by rw [List.getElem?_replicate] at hu; split at hu <;> simp_all
    subst this
    exact cell_int he hx
  refine ⟨cs.toList.map fun v => (match v with | .int _ m => m | _ => 0), ?_, by simpa using hs, ?_⟩
  · congr 1
    apply Array.ext
    · simp
    · intro i h1 h2
      obtain ⟨m, hm, _⟩ := hall i h1
      simp [hm]
  · intro x hx
    simp only [List.mem_map] at hx
    obtain ⟨v, hv, rfl⟩ := hx
    obtain ⟨i, hi, rfl⟩ := List.getElem_of_mem hv
    obtain ⟨m, hm, hw⟩ := hall i (by simpa using hi)
    simp only [Array.getElem_toList]
    rw [hm]
    exact hw
end
end Go.Proofs.Ytdchcggllcgokaa.O
