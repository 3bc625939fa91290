/-
  Plain lemmas on memory for the walks of this seat (behind the printed words).
-/
import Derived.Test.YtdchcggllcgokaaWWords
import Derived.WalkKit
import Derived.KernelRfl
import Derived.Deep.Draws
import Derived.Deep.QuietTactic
import Derived.BigQuiet
import Derived.Deep.RegionWith
import Derived.Maps.AppendAt
import Derived.Lib.Hide
import Derived.Deep.OwnRows
import Derived.Deep.RegionHeld3
import Derived.StillTailTactics
import Derived.OpenShut
namespace Go.Proofs.Ytdchcggllcgokaa.L
open Go.RowKit Go.Proofs.YtdchcggllcgokaaW.PrintWords
set_option linter.unusedVariables false

theorem below_ext {w W w1 : World} (h : Below w.heap.size w W) (hb : Below W.heap.size W w1) : Below w.heap.size w w1 := h.trans (hb.mono h.size)
theorem below_1 {w w1 : World} {o : Obj} (hb : Below (w.alloc o).heap.size (w.alloc o) w1) : Below w.heap.size w w1 := below_ext ((Below.refl _ _).alloc (Nat.le_refl _) o) hb
theorem below_2 {w w1 : World} {o o2 : Obj} (hb : Below ((w.alloc o).alloc o2).heap.size ((w.alloc o).alloc o2) w1) : Below w.heap.size w w1 := below_1 (below_1 hb)
theorem below_3 {w w1 : World} {o o2 o3 : Obj} (hb : Below (((w.alloc o).alloc o2).alloc o3).heap.size (((w.alloc o).alloc o2).alloc o3) w1) : Below w.heap.size w w1 := below_1 (below_1 (below_1 hb))
theorem below_drewN {B : Nat} {w W : World} (h : Below B w W) (n : Nat) : Below B w (W.drewN n) := pw_below_drewN h n
theorem below_undrew {B : Nat} {w W : World} (h : Below B w.drew W) : Below B w W := ⟨h.os, h.tape, h.output, h.size, h.block⟩
theorem below_undrewN {B n : Nat} {w W : World} (h : Below B (w.drewN n) W) : Below B w W := ⟨h.os, h.tape, h.output, h.size, h.block⟩
/-- What a call laid lies above; all that was there reads as before. -/
theorem bcell {W w1 : World} (hb : Below W.heap.size W w1) : (∀ b o, b < W.heap.size → w1.cell? ⟨b, o, none⟩ = W.cell? ⟨b, o, none⟩) ∧ (∀ b o, b < W.heap.size → w1.frozen? ⟨b, o, none⟩ = W.frozen? ⟨b, o, none⟩) :=
  ⟨fun b o h => hb.cell (p := ⟨b, o, none⟩) h, fun b o h => hb.frozen (p := ⟨b, o, none⟩) h⟩
theorem size_cell {w : World} {g o : Nat} {v : Value} (h : w.cell? ⟨g, o, none⟩ = some v) : g < w.heap.size := World.block_lt_of_cell? w _ h
theorem own_lower {w : World} {base base' : Nat} {e : TypeId} {size n : Nat} {v : Value} {xs : List Value} (h : w.ownsRow base e size v n xs) (hb : base' ≤ base) : w.ownsRow base' e size v n xs := own_weaken h hb
theorem own_at' {W : World} {base g n cap : Nat} {e : TypeId} {k : IntKind} {xs : List Int} (h : W.ownsRow base e 1 (.slice (some ⟨g, 0, none⟩) n cap) n (nums k xs)) (i : Nat) (h1 : i < n) :
    W.cell? ⟨g, i, none⟩ = some (.int k (rd xs i)) ∧ W.frozen? ⟨g, i, none⟩ = false := own_at h (i : Int) (by omega) (by omega)

theorem set_snoc {f : Nat → Int} {n k : Nat} (h : k < n) :
    ((List.range k).map f ++ List.replicate (n - k) 0).set k (f k) = (List.range (k + 1)).map f ++ List.replicate (n - (k + 1)) 0 := by
  rw [List.set_append_right _ _ (by simp)]
  simp only [List.length_map, List.length_range, Nat.sub_self]
  obtain ⟨d, hd⟩ : ∃ d, n - k = d + 1 := ⟨n - k - 1, by omega⟩
  rw [hd, List.replicate_succ, List.set_cons_zero, List.range_succ, List.map_append, show n - (k + 1) = d by omega]
  simp
/-- A row that is filled from its head on: one element more. -/
theorem fill_step {f : Nat → Int} {wr w2 : World} {base g N q : Nat} {e : TypeId} {k : IntKind} {X : Int}
    (HO : wr.ownsRow base e 1 (.slice (some ⟨g, 0, none⟩) N N) N (nums k ((List.range q).map f ++ List.replicate (N - q) 0))) (hb : Below wr.heap.size wr w2) (hX : X = f q) (hq : q < N) :
    (w2.setCell ⟨g, q, none⟩ (.int k X)).ownsRow base e 1 (.slice (some ⟨g, 0, none⟩) N N) N (nums k ((List.range (q + 1)).map f ++ List.replicate (N - (q + 1)) 0)) := by
  have h := (own_store (pw_own_below HO hb) (q : Int) X).1
  subst hX
  simp only [Int.toNat_natCast] at h
  rwa [set_snoc hq] at h
theorem fill_done {f : Nat → Int} {w : World} {base N : Nat} {e : TypeId} {k : IntKind} {v : Value}
    (HO : w.ownsRow base e 1 v N (nums k ((List.range N).map f ++ List.replicate (N - N) 0))) : w.ownsRow base e 1 v ((List.range N).map f).length (nums k ((List.range N).map f)) := by
  simpa using HO

theorem rd_map_range {f : Nat → Int} {n i : Nat} (h : i < n) : rd ((List.range n).map f) (i : Int) = f i := by
  simp [rd, List.getD_eq_getElem?_getD, List.getElem?_map, List.getElem?_range h]
theorem own_blk_ne {w : World} {base : Nat} {e t : TypeId} {size n g : Nat} {v : Value} {xs : List Value} {cs : Array Value} (h : w.ownsRow base e size v n xs) (hg : w.heap[g]? = some (.cells cs t (0, 0))) (hne : e ≠ t) : some g ≠ v.ownBlock := by
  rcases h.2 with ⟨rfl, _⟩ | ⟨g', cap, cur, rfl, _, hh, _⟩
  · simp [Value.ownBlock]
  · intro he
    obtain rfl : g = g' := by simpa [Value.ownBlock] using he
    rw [hg] at hh
    injection hh with hh
    injection hh with _ ht
    exact hne ht.symm
/-- An ending's number spelled otherwise. -/
theorem ret_i {k : IntKind} {a b : Int} (h : a = b) : Ending.returned (.int k a) = .returned (.int k b) := by rw [h]
theorem ret_b {a b : Bool} (h : a = b) : Ending.returned (.bool a) = .returned (.bool b) := by rw [h]

end Go.Proofs.Ytdchcggllcgokaa.L
