/-
  Plain lemmas on memory for the walks of this seat (behind the printed words). Whole arrays in a walk: made, stored, read, each as one step (the world behind a step is a letter, with what is known of it). Lists that are compared: ashlarref00.Same. Bytes copied; bytes with room behind them: ashlarref00.Copy, Wide, Left. ashlarref00.Left: what was handed in is as it was, the room behind it, too.
-/
import Derived.Test.YtdchcggllcgokaaWWords
import Derived.WalkKit
import Derived.KernelRfl
import Derived.Deep.Draws
import Derived.Deep.QuietTactic
import Derived.BigQuiet
import Derived.Deep.RegionWith
import Derived.Maps.AppendAt
import Derived.Lib.Hide
import Derived.Deep.OwnRows
import Derived.Deep.RegionHeld3
import Derived.StillTailTactics
import Derived.OpenShut
import Derived.Deep.MidRow
import Derived.Deep.WholeRow
import Derived.Test.YtdchcggllcgokaaProg
namespace Go.Proofs.Ytdchcggllcgokaa.L
open Go.RowKit Go.Proofs.YtdchcggllcgokaaW.PrintWords
set_option linter.unusedVariables false

theorem below_ext {w W w1 : World} (h : Below w.heap.size w W) (hb : Below W.heap.size W w1) : Below w.heap.size w w1 := h.trans (hb.mono h.size)
theorem below_1 {w w1 : World} {o : Obj} (hb : Below (w.alloc o).heap.size (w.alloc o) w1) : Below w.heap.size w w1 := below_ext ((Below.refl _ _).alloc (Nat.le_refl _) o) hb
theorem below_2 {w w1 : World} {o o2 : Obj} (hb : Below ((w.alloc o).alloc o2).heap.size ((w.alloc o).alloc o2) w1) : Below w.heap.size w w1 := below_1 (below_1 hb)
theorem below_3 {w w1 : World} {o o2 o3 : Obj} (hb : Below (((w.alloc o).alloc o2).alloc o3).heap.size (((w.alloc o).alloc o2).alloc o3) w1) : Below w.heap.size w w1 := below_1 (below_1 (below_1 hb))
theorem below_drewN {B : Nat} {w W : World} (h : Below B w W) (n : Nat) : Below B w (W.drewN n) := pw_below_drewN h n
theorem below_undrew {B : Nat} {w W : World} (h : Below B w.drew W) : Below B w W := ⟨h.os, h.tape, h.output, h.size, h.block⟩
theorem below_undrewN {B n : Nat} {w W : World} (h : Below B (w.drewN n) W) : Below B w W := ⟨h.os, h.tape, h.output, h.size, h.block⟩
/-- What a call laid lies above; all that was there reads as before. -/
theorem bcell {W w1 : World} (hb : Below W.heap.size W w1) : (∀ b o, b < W.heap.size → w1.cell? ⟨b, o, none⟩ = W.cell? ⟨b, o, none⟩) ∧ (∀ b o, b < W.heap.size → w1.frozen? ⟨b, o, none⟩ = W.frozen? ⟨b, o, none⟩) :=
  ⟨fun b o h => hb.cell (p := ⟨b, o, none⟩) h, fun b o h => hb.frozen (p := ⟨b, o, none⟩) h⟩
theorem size_cell {w : World} {g o : Nat} {v : Value} (h : w.cell? ⟨g, o, none⟩ = some v) : g < w.heap.size := World.block_lt_of_cell? w _ h
theorem own_lower {w : World} {base base' : Nat} {e : TypeId} {size n : Nat} {v : Value} {xs : List Value} (h : w.ownsRow base e size v n xs) (hb : base' ≤ base) : w.ownsRow base' e size v n xs := own_weaken h hb
theorem own_at' {W : World} {base g n cap : Nat} {e : TypeId} {k : IntKind} {xs : List Int} (h : W.ownsRow base e 1 (.slice (some ⟨g, 0, none⟩) n cap) n (nums k xs)) (i : Nat) (h1 : i < n) :
    W.cell? ⟨g, i, none⟩ = some (.int k (rd xs i)) ∧ W.frozen? ⟨g, i, none⟩ = false := own_at h (i : Int) (by omega) (by omega)

theorem set_snoc {f : Nat → Int} {n k : Nat} (h : k < n) :
    ((List.range k).map f ++ List.replicate (n - k) 0).set k (f k) = (List.range (k + 1)).map f ++ List.replicate (n - (k + 1)) 0 := by
  rw [List.set_append_right _ _ (by simp)]
  simp only [List.length_map, List.length_range, Nat.sub_self]
  obtain ⟨d, hd⟩ : ∃ d, n - k = d + 1 := ⟨n - k - 1, by omega⟩
  rw [hd, List.replicate_succ, List.set_cons_zero, List.range_succ, List.map_append, show n - (k + 1) = d by omega]
  simp
/-- A row that is filled from its head on: one element more. -/
theorem fill_step {f : Nat → Int} {wr w2 : World} {base g N q : Nat} {e : TypeId} {k : IntKind} {X : Int}
    (HO : wr.ownsRow base e 1 (.slice (some ⟨g, 0, none⟩) N N) N (nums k ((List.range q).map f ++ List.replicate (N - q) 0))) (hb : Below wr.heap.size wr w2) (hX : X = f q) (hq : q < N) :
    (w2.setCell ⟨g, q, none⟩ (.int k X)).ownsRow base e 1 (.slice (some ⟨g, 0, none⟩) N N) N (nums k ((List.range (q + 1)).map f ++ List.replicate (N - (q + 1)) 0)) := by
  have h := (own_store (pw_own_below HO hb) (q : Int) X).1
  subst hX
  simp only [Int.toNat_natCast] at h
  rwa [set_snoc hq] at h
theorem fill_done {f : Nat → Int} {w : World} {base N : Nat} {e : TypeId} {k : IntKind} {v : Value}
    (HO : w.ownsRow base e 1 v N (nums k ((List.range N).map f ++ List.replicate (N - N) 0))) : w.ownsRow base e 1 v ((List.range N).map f).length (nums k ((List.range N).map f)) := by
  simpa using HO

theorem rd_map_range {f : Nat → Int} {n i : Nat} (h : i < n) : rd ((List.range n).map f) (i : Int) = f i := by
  simp [rd, List.getD_eq_getElem?_getD, List.getElem?_map, List.getElem?_range h]
theorem own_blk_ne {w : World} {base : Nat} {e t : TypeId} {size n g : Nat} {v : Value} {xs : List Value} {cs : Array Value} (h : w.ownsRow base e size v n xs) (hg : w.heap[g]? = some (.cells cs t (0, 0))) (hne : e ≠ t) : some g ≠ v.ownBlock := by
  rcases h.2 with ⟨rfl, _⟩ | ⟨g', cap, cur, rfl, _, hh, _⟩
  · simp [Value.ownBlock]
  · intro he
    obtain rfl : g = g' := by simpa [Value.ownBlock] using he
    rw [hg] at hh
    injection hh with hh
    injection hh with _ ht
    exact hne ht.symm
/-- An ending's number spelled otherwise. -/
theorem ret_i {k : IntKind} {a b : Int} (h : a = b) : Ending.returned (.int k a) = .returned (.int k b) := by rw [h]
theorem ret_b {a b : Bool} (h : a = b) : Ending.returned (.bool a) = .returned (.bool b) := by rw [h]

end Go.Proofs.Ytdchcggllcgokaa.L

namespace Go.Proofs.Ytdchcggllcgokaa.L
open Go.RowKit Go.Proofs.YtdchcggllcgokaaW.PrintWords
set_option linter.unusedVariables false
set_option linter.unusedSimpArgs false
section
variable {P : Program} {ops : Array Oper} {rest : List Oper} {op : Oper} {a : Act} {w : World} {Q : Exit → Act → World → Prop}

theorem grown_setRow (w : World) (g : Nat) (cs : Array Value) : w.grownBy (w.setRow g cs) (some g) :=
  ⟨rfl, rfl, rfl, by simp, fun k hk hne => setRow_other w g k cs (fun e => hne (by rw [e]))⟩

/-- A value of a whole array or struct goes into a block that is known whole. -/
theorem rowStore (hgd : op.guard = none) (ty : TypeId) (x y : Operand) (ho : op.op = .store ty x y) (g : Nat) (hx : a.eval x = .pointer (some ⟨g, 0, none⟩))
    (cs : Array Value) (hy : a.eval y = .agg cs) (t : TypeId) (old : Array Value) (hg : w.heap[g]? = some (.cells old t (0, 0))) (hi : (P.info? ty).map (·.size) = some cs.size) (hs : old.size = cs.size)
    (h1 : cs.all (·.oneCell') = true)
    (h : ∀ w1, w1.heap[g]? = some (.cells cs t (0, 0)) → w.grownBy w1 (some g) → wpList P ops Q rest (a.put op.dst undef) w1) : wpList P ops Q (op :: rest) a w := by
  refine wpList_plain hgd fun K hK => ?_
  unfold Oper.wp execOp
  simp only [ho, hx, hy, Instr.storeAt, Instr.sureAddr, Sem.run_bind, Sem.run_pure, Result.andThen_ok, run_storeVar_row w g t ty old cs hg hi hs h1]
  exact hK _ _ (h _ (setRow_heap w g old cs t _ hg) (grown_setRow w g cs))

/-- A variable of a whole array or struct is made. -/
theorem rowAlloc (hgd : op.guard = none) (ty : TypeId) (ho : op.op = .alloc ty) (z : Value) (hz : ∀ w : World, (zeroValue ty).run P w = .ok z w)
    (h : ∀ w1, w1.heap[w.heap.size]? = some (.cells z.cells ty (0, 0)) → w.grownBy w1 none → w.heap.size < w1.heap.size → wpList P ops Q rest (a.put op.dst (.pointer (some ⟨w.heap.size, 0, none⟩))) w1) : wpList P ops Q (op :: rest) a w := by
  refine wpList_plain hgd fun K hK => ?_
  have := h (w.alloc (.cells z.cells ty)) (heap_alloc_last w _) (World.grownBy_alloc w _ _) (by simp)
  unfold Oper.wp execOp
  simp only [ho, Instr.alloc, newVar, newRow, Sem.run_bind, Sem.run_pure, Sem.run_map, Result.andThen_ok, hz, run_newObj_alloc]
  exact hK _ _ this

/-- A value is laid into a variable of its own. -/
theorem rowBox (hgd : op.guard = none) (ty : TypeId) (x : Operand) (ho : op.op = .box ty x) (cs : Array Value) (hx : a.eval x = .agg cs)
    (h : ∀ w1, w1.heap[w.heap.size]? = some (.cells cs ty (0, 0)) → w.grownBy w1 none → w.heap.size < w1.heap.size → wpList P ops Q rest (a.put op.dst (.pointer (some ⟨w.heap.size, 0, none⟩))) w1) : wpList P ops Q (op :: rest) a w := by
  refine wpList_plain hgd fun K hK => ?_
  have := h (w.alloc (.cells cs ty)) (heap_alloc_last w _) (World.grownBy_alloc w _ _) (by simp)
  unfold Oper.wp execOp
  simp only [ho, hx, Instr.box, newVar, newRow, Value.cells, Sem.run_bind, Sem.run_pure, Sem.run_map, Result.andThen_ok, run_newObj_alloc]
  exact hK _ _ this
theorem grown_below {w w1 : World} (h : w.grownBy w1 none) : Below w.heap.size w w1 := (Below.refl _ _).grown h (Nat.le_refl _) (fun _ h => by cases h)
theorem below_own {w W w1 : World} {g : Nat} (h : Below w.heap.size w W) (hg : W.grownBy w1 (some g)) (hb : w.heap.size ≤ g) : Below w.heap.size w w1 :=
  h.grown hg h.size (fun k hk => by injection hk with hk; omega)
end
end Go.Proofs.Ytdchcggllcgokaa.L

namespace Go.Proofs.Ytdchcggllcgokaa.S
open Go.RowKit Go.Proofs.Ytdchcggllcgokaa.L Go.Proofs.YtdchcggllcgokaaW.PrintWords
set_option linter.unusedVariables false

theorem Same_any (A B : Option Addr) (c d : Nat) (xs ys : List Int) (w : World) (hx : ReadsInt w .u8 A xs.length xs) (hy : ReadsInt w .u8 B ys.length ys) (hn : xs.length ≤ 9223372036854775807) (hm : ys.length ≤ 9223372036854775807) :
    Calls Try.prog 38 #[.slice A xs.length c, .slice B ys.length d] w fun e w' => e = .returned (.bool (decide (xs = ys))) ∧ ∃ j, w' = w.drewN j := by
  by_cases hl : xs.length = ys.length
  · have HL := Lib.hid hl
    have hl2 : ((xs.length : Int) != (ys.length : Int)) = false := by rw [hl]; simp
    obtain ⟨n, hn2⟩ : ∃ n, n = xs.length := ⟨_, rfl⟩
    have HY := Lib.hid (hl ▸ hn2 : n = ys.length)
    rw [← hl, ← hn2] at hl2
    rw [← hn2] at hn hx ⊢
    rw [← hl, ← hn2] at hy hm ⊢
    have HN := Lib.hid hn2
    have HX := Lib.hid hx
    have HYR := Lib.hid hy
    clear hl hn2 hx hy
    go_enter Try.func38, Try.ntmps38
    go_wp2
    go_loopw [5] (fun i wr => ∃ q : Nat, q ≤ n ∧ i = .int .i64 q ∧ Hid (∀ j : Nat, j < q → rd xs j = rd ys j) ∧ Hid (∃ j, wr = w.drewN j)) (fun i _ => n - (intOf i).toNat)
    case atStart => exact ⟨0, Nat.zero_le _, rfl, Lib.hid (fun j hj => absurd hj (by omega)), Lib.hid ⟨0, rfl⟩⟩
    case round =>
      obtain ⟨q, hq, rfl, HA, HW⟩ := hrel
      obtain ⟨j, rfl⟩ := HW.out
      clear HW
      by_cases hlt : q < n
      · obtain ⟨ax, rfl, cx⟩ := HX.out.at_ (q : Int) (by omega) (by omega)
        obtain ⟨ay, rfl, cy⟩ := HYR.out.at_ (q : Int) (by omega) (by omega)
        simp only [Int.toNat_natCast] at cx cy
        have hi0 : (0 : Int) ≤ (q : Int) := by omega
        have hi1 : (q : Int) < (n : Int) := by omega
        by_cases he : rd xs q = rd ys q
        · have hb : (rd xs q != rd ys q) = false := by simp [he]
          have HE := Lib.hid he
          clear he
          go_wp2
          go_quiet (fail)
          go_wp2
          go_roundw
          case rel =>
            refine ⟨q + 1, by omega, by go_num, Lib.hid (fun i hi => ?_), Lib.hid ⟨_, rfl⟩⟩
            rcases Nat.lt_or_ge i q with h | h
            · exact HA.out i h
            · obtain rfl : i = q := by omega
              exact HE.out
          case measure => simp [intOf]; omega
        · have hb : (rd xs q != rd ys q) = true := by simpa using he
          have HB := Lib.hid (show false = decide (xs = ys) by symm; rw [decide_eq_false_iff_not]; intro h; exact he (by rw [h]))
          clear he
          go_wp2
          go_quiet (fail)
          go_wp2
          go_ret
          exact ⟨ret_b HB.out, _, by first | rfl | exact World.drewN_drewN _ _ _⟩
      · obtain rfl : q = n := by omega
        have HB := Lib.hid (show true = decide (xs = ys) by
          symm; rw [decide_eq_true_eq]
          refine List.ext_getElem (by rw [← HN.out, ← HY.out]) (fun i h1 h2 => ?_)
          have h3 := HA.out i (by rw [HN.out]; exact h1)
          simpa [rd, List.getD_eq_getElem?_getD, List.getElem?_eq_getElem h1, List.getElem?_eq_getElem h2] using h3)
        go_wp2
        go_ret
        exact ⟨ret_b HB.out, _, rfl⟩
  · have HB := Lib.hid (show false = decide (xs = ys) by symm; rw [decide_eq_false_iff_not]; intro h; exact hl (by rw [h]))
    have hl2 : ((xs.length : Int) != (ys.length : Int)) = true := by simp; omega
    clear hl
    go_enter Try.func38, Try.ntmps38
    go_wp2
    go_ret
    exact ⟨ret_b HB.out, 0, rfl⟩

end Go.Proofs.Ytdchcggllcgokaa.S

namespace Go.Proofs.Ytdchcggllcgokaa.S
open Go.RowKit Go.Proofs.Ytdchcggllcgokaa.L Go.Proofs.YtdchcggllcgokaaW.PrintWords
set_option linter.unusedVariables false

theorem info_u8 : (Try.prog.info? 5).map (fun i => (i.zero, i.size, i.bytes)) = some (some (.int .u8 0), 1, 1) := by kernel_rfl
theorem Copy_any (A : Option Addr) (c : Nat) (xs : List Int) (w : World) (hx : ReadsInt w .u8 A xs.length xs) (hn : xs.length ≤ 140737488355328) :
    Calls Try.prog 41 #[.slice A xs.length c] w fun e w' => ∃ v, e = .returned v ∧ w'.ownsRow w.heap.size 5 1 v xs.length (nums .u8 xs) ∧ Below w.heap.size w w' := by
  have HX := Lib.hid hx
  have HO := Lib.hid (World.ownsRow_nil w w.heap.size 5 1)
  have hl5 : (([] : List Int).length + xs.length) * 1 ≤ 140737488355328 := by simpa using hn
  clear hx
  go_enter Try.func41, Try.ntmps41
  go_wp2_with (first
    | (at_builtin; refine print_append_row (w0 := w) w.heap.size rfl (.tmp 4) (.tmp 5) 22 5 .u8 1 rfl Try.underlying22 info_u8 (by decide) _ [] xs A xs.length c rfl rfl HO.out HX.out (Below.refl _ _) (Nat.le_refl _) hl5 ?_; intro v1 w5 ho5 hb5 hg5 hat5))
  go_ret
  exact ⟨_, rfl, ho5, hb5⟩

/-- the bytes of Wide: those that came, and three 7s behind -/
def wid (xs : List Int) : List Int := xs ++ [7, 7, 7]
def mid (xs : List Int) (q : Nat) : List Int := xs.take q ++ List.replicate (xs.length + 3 - q) 0
theorem mid_set (xs : List Int) (q : Nat) (h : q < xs.length) : (mid xs q).set q (xs.getD q 0) = mid xs (q + 1) := by
  unfold mid
  rw [List.set_append_right _ _ (by simp; omega), List.length_take, Nat.min_eq_left (by omega), Nat.sub_self]
  obtain ⟨d, hd⟩ : ∃ d, xs.length + 3 - q = d + 1 := ⟨xs.length + 3 - q - 1, by omega⟩
  rw [hd, List.replicate_succ, List.set_cons_zero, List.take_succ_eq_append_getElem h, show xs.length + 3 - (q + 1) = d by omega]
  rw [List.append_assoc, List.singleton_append, List.getD_eq_getElem?_getD, List.getElem?_eq_getElem h, Option.getD_some]
def end_ (xs : List Int) (q : Nat) : List Int := xs ++ List.replicate q 7 ++ List.replicate (3 - q) 0
theorem end_set (xs : List Int) (q : Nat) (h : q < 3) : (end_ xs q).set (xs.length + q) 7 = end_ xs (q + 1) := by
  unfold end_
  rw [List.set_append_right _ _ (by simp), List.length_append, List.length_replicate, Nat.sub_self]
  obtain ⟨d, hd⟩ : ∃ d, 3 - q = d + 1 := ⟨3 - q - 1, by omega⟩
  rw [hd, List.replicate_succ, List.set_cons_zero, List.replicate_succ', show 3 - (q + 1) = d by omega]
  simp
theorem mid_end (xs : List Int) : mid xs xs.length = end_ xs 0 := by simp [mid, end_]
theorem end_wid (xs : List Int) : end_ xs 3 = wid xs := by simp [end_, wid, List.replicate]

set_option maxHeartbeats 400000 in
theorem Wide_any (A : Option Addr) (c : Nat) (xs : List Int) (w : World) (hx : ReadsInt w .u8 A xs.length xs) (hn : xs.length ≤ 140737488351232) :
    Calls Try.prog 33 #[.slice A xs.length c] w fun e w' => ∃ g, e = .returned (.slice (some ⟨g, 0, none⟩) xs.length (xs.length + 3)) ∧ w'.ownsRow w.heap.size 5 1 (.slice (some ⟨g, 0, none⟩) (xs.length + 3) (xs.length + 3)) (xs.length + 3) (nums .u8 (wid xs)) ∧ Below w.heap.size w w' := by
  have HX := Lib.hid hx
  clear hx
  obtain ⟨n, hnn⟩ : ∃ n, n = xs.length := ⟨_, rfl⟩
  have HN := Lib.hid hnn
  rw [← hnn] at hn ⊢
  clear hnn
  have hmk0 := fun W => run_make_row' (P := Try.prog) 22 5 (.int .u8 0) 1 Try.underlying22 info_u8 rfl .i64 .i64 (n + 3) (by omega) (by omega) W
  have hmk : ∀ W, (Instr.makeSlice 22 (.int .i64 ((n : Int) + 3)) (.int .i64 ((n : Int) + 3))).run Try.prog W = .ok (.slice (some ⟨W.heap.size, 0, none⟩) (n + 3) (n + 3)) (W.alloc (.cells (madeCells #[.int .u8 0] (n + 3)) 5)) := fun W => by
    have := hmk0 W
    rwa [show ((n + 3 : Nat) : Int) = (n : Int) + 3 by omega] at this
  clear hmk0
  go_enter Try.func33, Try.ntmps33
  go_wp2
  go_loopw [4] (fun i wr => ∃ q : Nat, q ≤ n ∧ i = .int .i64 q ∧ Hid (wr.ownsRow w.heap.size 5 1 (.slice (some ⟨w.heap.size, 0, none⟩) (n + 3) (n + 3)) (n + 3) (nums .u8 (mid xs q))) ∧ Hid (Below w.heap.size w wr)) (fun i _ => n - (intOf i).toNat)
  case atStart => exact ⟨0, Nat.zero_le _, rfl, Lib.hid (by simpa [mid, ← HN.out] using own_made w w.heap.size 5 .u8 (n + 3) (Nat.le_refl _) (by omega)), Lib.hid (below_alloc (Below.refl _ _) _)⟩
  case round =>
    obtain ⟨q, hq, rfl, HO, HB⟩ := hrel
    by_cases hlt : q < n
    · obtain ⟨ad, rfl, cx⟩ := (HX.out.below HB.out).at_ (q : Int) (by omega) (by rw [← HN.out]; omega)
      simp only [Int.toNat_natCast] at cx
      obtain ⟨o1, o2⟩ := own_at' HO.out q (by omega)
      go_wp2
      go_roundw
      case rel =>
        refine ⟨q + 1, by omega, by go_num, Lib.hid ?_, Lib.hid (HB.out.setCell (by simp) _)⟩
        have h := (own_store HO.out (q : Int) (rd xs q)).1
        simp only [Int.toNat_natCast] at h
        rw [rd, Int.toNat_natCast, mid_set xs q (by rw [← HN.out]; exact hlt)] at h
        exact h
      case measure => simp [intOf]; omega
    · obtain rfl : q = n := by omega
      go_wp2
      obtain ⟨w2, rfl⟩ : ∃ w2 : World, w2 = wr := ⟨_, rfl⟩
      go_loopw [5] (fun i wr => ∃ x : Nat, x ≤ 3 ∧ i = .int .i64 ((q + x : Nat) : Int) ∧ Hid (wr.ownsRow w.heap.size 5 1 (.slice (some ⟨w.heap.size, 0, none⟩) (q + 3) (q + 3)) (q + 3) (nums .u8 (end_ xs x))) ∧ Hid (Below w.heap.size w wr)) (fun i _ => q + 3 - (intOf i).toNat)
      case atStart => exact ⟨0, by omega, rfl, Lib.hid (by have h := HO.out; rw [HN.out, mid_end, ← HN.out] at h; exact h), HB⟩
      case round =>
        obtain ⟨x, hx, rfl, HO2, HB2⟩ := hrel
        clear HO HB
        by_cases hl : x < 3
        · obtain ⟨o1, o2⟩ := own_at' HO2.out (q + x) (by omega)
          go_wp2
          go_roundw
          case rel =>
            refine ⟨x + 1, by omega, by go_num, Lib.hid ?_, Lib.hid (HB2.out.setCell (by simp) _)⟩
            have h := (own_store HO2.out ((q + x : Nat) : Int) 7).1
            simp only [Int.toNat_natCast] at h
            rw [show q + x = xs.length + x by rw [HN.out], end_set xs x hl] at h
            rw [show q + x = xs.length + x by rw [HN.out]]
            exact h
          case measure => simp [intOf]; omega
        · obtain rfl : x = 3 := by omega
          go_wp2
          go_ret
          exact ⟨w.heap.size, rfl, by rw [← end_wid]; exact HO2.out, HB2.out⟩
end Go.Proofs.Ytdchcggllcgokaa.S

namespace Go.Proofs.Ytdchcggllcgokaa.S
open Go.RowKit Go.Proofs.Ytdchcggllcgokaa.L Go.Proofs.YtdchcggllcgokaaW.PrintWords
set_option linter.unusedVariables false

theorem wid_length (xs : List Int) : (wid xs).length = xs.length + 3 := by simp [wid]
theorem wid_front (xs : List Int) (q : Nat) (h : q < xs.length) : rd (wid xs) (q : Int) = rd xs q := by
  simp [rd, wid, List.getD_eq_getElem?_getD, List.getElem?_append_left h]
theorem wid_back (xs : List Int) (q : Nat) (h : q < 3) : rd (wid xs) ((xs.length + q : Nat) : Int) = 7 := by
  rw [rd, wid, Int.toNat_natCast, List.getD_eq_getElem?_getD, List.getElem?_append_right (by omega), Nat.add_sub_cancel_left]
  have : q = 0 ∨ q = 1 ∨ q = 2 := by omega
  rcases this with rfl | rfl | rfl <;> rfl
/-- What Wide made reads as what it was made of. -/
theorem wid_reads {w : World} {g : Nat} {xs : List Int} (h : ReadsInt w .u8 (some ⟨g, 0, none⟩) (xs.length + 3) (wid xs)) : ReadsInt w .u8 (some ⟨g, 0, none⟩) xs.length xs := by
  refine ⟨rfl, by have := h.2.1; omega, fun hp => ⟨_, rfl, fun j hj => ?_⟩⟩
  obtain ⟨ad, e, hc⟩ := h.2.2 (by omega)
  injection e with e; subst e
  rw [hc j (by omega)]
  have := wid_front xs j hj
  simp only [rd, Int.toNat_natCast] at this
  rw [this]

set_option maxHeartbeats 400000 in
theorem Left_any (g : Nat) (B : Option Addr) (d : Nat) (xs : List Int) (w : World) (hx : ReadsInt w .u8 (some ⟨g, 0, none⟩) (xs.length + 3) (wid xs)) (hy : ReadsInt w .u8 B xs.length xs) (hn : xs.length ≤ 140737488351232) :
    Calls Try.prog 40 #[.slice (some ⟨g, 0, none⟩) xs.length (xs.length + 3), .slice B xs.length d] w fun e w' => e = .returned (.bool true) ∧ ∃ j, w' = w.drewN j := by
  have HX := Lib.hid hx
  have A1 := Lib.hid (fun w1 (h : ∃ j, w1 = w.drewN j) => (Same_any (some ⟨g, 0, none⟩) B (xs.length + 3) d xs xs w (wid_reads hx) hy (by omega) (by omega)))
  obtain ⟨n, hnn⟩ : ∃ n, n = xs.length := ⟨_, rfl⟩
  have HN := Lib.hid hnn
  rw [← hnn] at hn A1 ⊢
  clear hnn hx hy
  go_enter Try.func40, Try.ntmps40
  go_wp2_with (first
    | (go_at_call 38; refine (A1.out _ ⟨0, rfl⟩).mono ?_; rintro e w1 ⟨rfl, j1, rfl⟩; rw [decide_eq_true rfl]))
  go_loopw [6] (fun i wr => ∃ x : Nat, x ≤ 3 ∧ i = .int .i64 ((n + x : Nat) : Int) ∧ Hid (∃ j, wr = w.drewN j)) (fun i _ => n + 3 - (intOf i).toNat)
  case atStart => exact ⟨0, by omega, rfl, Lib.hid ⟨_, rfl⟩⟩
  case round =>
    obtain ⟨x, hx, rfl, HW⟩ := hrel
    obtain ⟨j, rfl⟩ := HW.out
    clear HW
    by_cases hl : x < 3
    · obtain ⟨ad, e0, cx⟩ := HX.out.at_ ((n + x : Nat) : Int) (by omega) (by rw [HN.out]; omega)
      injection e0 with e0
      subst e0
      rw [show n + x = xs.length + x by rw [HN.out], wid_back xs x hl, Int.toNat_natCast, add_plain] at cx
      rw [show xs.length + x = n + x by rw [HN.out]] at cx
      go_wp2
      go_roundw
      case rel => exact ⟨x + 1, by omega, by go_num, Lib.hid ⟨_, rfl⟩⟩
      case measure => simp [intOf]; omega
    · obtain rfl : x = 3 := by omega
      go_wp2
      go_ret
      exact ⟨rfl, _, rfl⟩
end Go.Proofs.Ytdchcggllcgokaa.S
