/-
  The laws of single operations with the guard's proof last: an arm that does not fit fails at once.
-/
import Derived.Test.YtdchcggllcgokaaBlk
namespace Go.Proofs.Ytdchcggllcgokaa.F
open Go.RowKit Go.Proofs.Ytdchcggllcgokaa.L Go.Proofs.Ytdchcggllcgokaa.R Go.Proofs.YtdchcggllcgokaaW.PrintWords
set_option linter.unusedVariables false
section
variable {P : Program} {ops : Array Oper} {rest : List Oper} {op : Oper} {a : Act} {w : World} {Q : Exit → Act → World → Prop}
theorem rowLoad (ty : TypeId) (x : Operand) (ho : op.op = .load ty x) {g : Nat} {t : TypeId} {cs : Array Value} (hk : Row t w g cs) (hx : a.eval x = .pointer (some ⟨g, 0, none⟩)) {d : TypeDesc} (hu : P.underlying ty = some d) (hd : (match d with | .struct _ | .array _ _ => true | _ => false) = true) (hi : (P.info? ty).map (·.size) = some cs.size) (hw : Region.wanted op (yielded ops a.tmps) = true) (h : wpList P ops Q rest (a.put op.dst (.agg cs)) w) : wpList P ops Q (op :: rest) a w :=
  R.rowLoad hw ty x ho hk hx hu hd hi h
theorem rowStore (ty : TypeId) (x y : Operand) (ho : op.op = .store ty x y) {g : Nat} {t : TypeId} {cs old : Array Value} (hk : Row t w g old) (hx : a.eval x = .pointer (some ⟨g, 0, none⟩)) (hy : a.eval y = .agg cs) (hi : (P.info? ty).map (·.size) = some cs.size) (hs : old.size = cs.size) (h1 : cs.all (·.oneCell') = true) (hw : Region.wanted op (yielded ops a.tmps) = true) (h : ∀ w1, Row t w1 g cs → w.grownBy w1 (some g) → wpList P ops Q rest (a.put op.dst undef) w1) : wpList P ops Q (op :: rest) a w :=
  R.rowStore hw ty x y ho hk hx hy hi hs h1 h
theorem rowAlloc (ty : TypeId) (ho : op.op = .alloc ty) (cs : Array Value) (hz : ∀ w : World, (zeroValue ty).run P w = .ok (.agg cs) w) (hw : Region.wanted op (yielded ops a.tmps) = true) (h : ∀ w1, Row ty w1 w.heap.size cs → Below w.heap.size w w1 → w.heap.size < w1.heap.size → wpList P ops Q rest (a.put op.dst (.pointer (some ⟨w.heap.size, 0, none⟩))) w1) : wpList P ops Q (op :: rest) a w :=
  R.rowAlloc hw ty ho cs hz h
theorem rowBox (ty : TypeId) (x : Operand) (ho : op.op = .box ty x) {cs : Array Value} (hx : a.eval x = .agg cs) (hw : Region.wanted op (yielded ops a.tmps) = true) (h : ∀ w1, Row ty w1 w.heap.size cs → Below w.heap.size w w1 → w.heap.size < w1.heap.size → wpList P ops Q rest (a.put op.dst (.pointer (some ⟨w.heap.size, 0, none⟩))) w1) : wpList P ops Q (op :: rest) a w :=
  R.rowBox hw ty x ho hx h
theorem rowCell (ty : TypeId) (x : Operand) (ho : op.op = .load ty x) {g o : Nat} {v : Value} (hc : w.cell? ⟨g, o, none⟩ = some v) (hx : a.eval x = .pointer (some ⟨g, o, none⟩)) (hag : ∀ w : World, (isAgg ty).run P w = .ok false w) (hw : Region.wanted op (yielded ops a.tmps) = true) (h : wpList P ops Q rest (a.put op.dst v) w) : wpList P ops Q (op :: rest) a w :=
  R.rowCell hw ty x ho hc hx hag h
theorem rowSet (ty : TypeId) (x y : Operand) (ho : op.op = .store ty x y) {g : Nat} {t : TypeId} {cs : Array Value} (hk : Row t w g cs) (o : Nat) (hlt : o < cs.size) (hx : a.eval x = .pointer (some ⟨g, o, none⟩)) (v : Value) (hy : a.eval y = v) (hv : v.cells = #[v]) (h1 : v.oneCell' = true) (hi : (P.info? ty).map (·.size) = some 1) (hw : Region.wanted op (yielded ops a.tmps) = true) (h : ∀ w1, Row t w1 g (cs.setIfInBounds o v) → w.grownBy w1 (some g) → wpList P ops Q rest (a.put op.dst undef) w1) : wpList P ops Q (op :: rest) a w :=
  R.rowSet hw ty x y ho hk o hlt hx v hy hv h1 hi h
theorem rowCopy (d s : Operand) (dT sT : TypeId) (ho : op.op = .call { callee := .builtin .copy, args := #[d, s], argTypes := #[dT, sT] }) (elem : TypeId) (hu : P.underlying dT = some (.slice elem)) (hsz : (P.info? elem).map (·.size) = some 1) {g : Nat} {t : TypeId} {xs : List Int} {k : IntKind} (hk : Row t w g (nums k xs).toArray) (off dLen dCap : Nat) (hd : a.eval d = .slice (some ⟨g, off, none⟩) dLen dCap) {A : Option Addr} {n c : Nat} {ys : List Int} (hr : ReadsInt w k A n ys) (hs : a.eval s = .slice A n c) (hfit : off + dLen ≤ xs.length) (hw : Region.wanted op (yielded ops a.tmps) = true) (h : ∀ w1, Row t w1 g (nums k (splice xs off (ys.take dLen))).toArray → w.grownBy w1 (some g) → wpList P ops Q rest (a.put op.dst (goInt (min n dLen : Nat))) w1) : wpList P ops Q (op :: rest) a w :=
  R.rowCopy hw d s dT sT ho elem hu hsz hk off dLen dCap hd hr hs hfit h
end
section
variable {ops : Array Oper} {rest : List Oper} {op : Oper} {a : Act} {w : World} {Q : Exit → Act → World → Prop}
theorem blkLoad (x : Operand) (ho : op.op = .load 50 x) {g : Nat} {xs : List Int} (hk : Blk w g xs) (hx : a.eval x = .pointer (some ⟨g, 0, none⟩)) (hw : Region.wanted op (yielded ops a.tmps) = true) (h : wpList Try.prog ops Q rest (a.put op.dst (blk xs)) w) : wpList Try.prog ops Q (op :: rest) a w :=
  R.blkLoad hw x ho hk hx h
theorem blkStore (x y : Operand) (ho : op.op = .store 50 x y) {g : Nat} {xs ys : List Int} (hk : Blk w g xs) (hx : a.eval x = .pointer (some ⟨g, 0, none⟩)) (hy : a.eval y = blk ys) (hl : ys.length = 64) (hw : Region.wanted op (yielded ops a.tmps) = true) (h : ∀ w1, Blk w1 g ys → w.grownBy w1 (some g) → wpList Try.prog ops Q rest (a.put op.dst undef) w1) : wpList Try.prog ops Q (op :: rest) a w :=
  R.blkStore hw x y ho hk hx hy hl h
theorem blkAlloc (ho : op.op = .alloc 50) (hw : Region.wanted op (yielded ops a.tmps) = true) (h : ∀ w1, Blk w1 w.heap.size zeros → Below w.heap.size w w1 → w.heap.size < w1.heap.size → wpList Try.prog ops Q rest (a.put op.dst (.pointer (some ⟨w.heap.size, 0, none⟩))) w1) : wpList Try.prog ops Q (op :: rest) a w :=
  R.blkAlloc hw ho h
theorem blkBox (x : Operand) (ho : op.op = .box 50 x) {xs : List Int} (hx : a.eval x = blk xs) (hl : xs.length = 64) (hw : Region.wanted op (yielded ops a.tmps) = true) (h : ∀ w1, Blk w1 w.heap.size xs → Below w.heap.size w w1 → w.heap.size < w1.heap.size → wpList Try.prog ops Q rest (a.put op.dst (.pointer (some ⟨w.heap.size, 0, none⟩))) w1) : wpList Try.prog ops Q (op :: rest) a w :=
  R.blkBox hw x ho hx hl h
theorem blkBuild (ho : op.op = .build 50 #[]) (hw : Region.wanted op (yielded ops a.tmps) = true) (h : wpList Try.prog ops Q rest (a.put op.dst (blk zeros)) w) : wpList Try.prog ops Q (op :: rest) a w :=
  R.blkBuild hw ho h
theorem blkCopy (d s : Operand) (ho : op.op = .call { callee := .builtin .copy, args := #[d, s], argTypes := #[22, 22] }) {g : Nat} {xs : List Int} (hk : Blk w g xs) (off dLen dCap : Nat) (hd : a.eval d = .slice (some ⟨g, off, none⟩) dLen dCap) {A : Option Addr} {n c : Nat} {ys : List Int} (hr : ReadsInt w .u8 A n ys) (hs : a.eval s = .slice A n c) (hfit : off + dLen ≤ 64) (hw : Region.wanted op (yielded ops a.tmps) = true) (h : ∀ w1, Blk w1 g (splice xs off (ys.take dLen)) → w.grownBy w1 (some g) → wpList Try.prog ops Q rest (a.put op.dst (goInt (min n dLen : Nat))) w1) : wpList Try.prog ops Q (op :: rest) a w :=
  R.blkCopy hw d s ho hk off dLen dCap hd hr hs hfit h
theorem blkSet (x y : Operand) (ho : op.op = .store 5 x y) {g : Nat} {xs : List Int} (hk : Blk w g xs) (o : Nat) (hlt : o < 64) (hx : a.eval x = .pointer (some ⟨g, o, none⟩)) (v : Int) (hy : a.eval y = .int .u8 v) (hw : Region.wanted op (yielded ops a.tmps) = true) (h : ∀ w1, Blk w1 g (xs.set o v) → w.grownBy w1 (some g) → wpList Try.prog ops Q rest (a.put op.dst undef) w1) : wpList Try.prog ops Q (op :: rest) a w :=
  R.blkSet hw x y ho hk o hlt hx v hy h
theorem blkEql (x y : Operand) (t : TypeId) (ho : op.op = .binOp .eql 50 x y t) {xs ys : List Int} (hx : a.eval x = blk xs) (hy : a.eval y = blk ys) (hlx : xs.length = 64) (hly : ys.length = 64) (b : Bool) (hb : decide (xs = ys) = b) (hw : Region.wanted op (yielded ops a.tmps) = true) (h : wpList Try.prog ops Q rest (a.put op.dst (.bool b)) w) : wpList Try.prog ops Q (op :: rest) a w :=
  R.blkEql hw x y t ho hx hy hlx hly b hb h
theorem blkNeq (x y : Operand) (t : TypeId) (ho : op.op = .binOp .neq 50 x y t) {xs ys : List Int} (hx : a.eval x = blk xs) (hy : a.eval y = blk ys) (hlx : xs.length = 64) (hly : ys.length = 64) (b : Bool) (hb : decide (xs = ys) = !b) (hw : Region.wanted op (yielded ops a.tmps) = true) (h : wpList Try.prog ops Q rest (a.put op.dst (.bool b)) w) : wpList Try.prog ops Q (op :: rest) a w :=
  R.blkNeq hw x y t ho hx hy hlx hly b hb h
end
end Go.Proofs.Ytdchcggllcgokaa.F
