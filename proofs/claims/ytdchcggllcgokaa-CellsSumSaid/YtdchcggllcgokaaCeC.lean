/-
  cells.Get: what it answers; laws for its regions. cells.Get: the walk. cells.read at a place that may not be; cells.Get: whole.
-/
import Derived.Test.YtdchcggllcgokaaCeA
import Derived.Laws.Cover3
namespace Go.Proofs.Ytdchcggllcgokaa.Y
open Go.RowKit Go.Proofs.Ytdchcggllcgokaa.L Go.Proofs.Ytdchcggllcgokaa.U Go.Proofs.Ytdchcggllcgokaa.R Go.Proofs.Ytdchcggllcgokaa.E Go.Proofs.YtdchcggllcgokaaW.PrintWords
set_option linter.unusedVariables false
set_option linter.unusedSimpArgs false
section
variable {P : Program} {ops : Array Oper} {Q : Exit → Act → World → Prop} {md : Region.Mode} {S : World → Prop}
theorem hTake (i : Nat) {oi : Oper} (v : Value) {fuel : Nat} {listed : Array Bool} {a : Act} {w : World} (hi : ops[i]? = some oi) (d : Option Tmp) (hd : oi.dst = d)
    (hs : Region.noSelect ops = true) (hf : Region.free md ops listed i = true) (hr : (Region.ready md ops listed).contains i = true)
    (hQ : ∀ c a w, Q (.panic c) (a.put d v) w → Q (.panic c) a w) (hw : Region.wanted oi (yielded ops a.tmps) = true) (hy : ∀ w, S w → (execOp a.eval oi).run P w = .ok (.value v) w) (hS : S w)
    (h : wpAnyH P md ops Q S fuel (listed.setIfInBounds i true) (a.put d v) w) : wpAnyH P md ops Q S (fuel + 1) listed a w := by
  subst hd
  exact wpAnyH_take hi hs hf hr hQ (.inl ⟨hw, hy⟩) hS h
theorem hSkip (i : Nat) {oi : Oper} {fuel : Nat} {listed : Array Bool} {a : Act} {w : World} (hi : ops[i]? = some oi) (d : Option Tmp) (hd : oi.dst = d)
    (hs : Region.noSelect ops = true) (hf : Region.free md ops listed i = true) (hr : (Region.ready md ops listed).contains i = true)
    (hQ : ∀ c a w, Q (.panic c) (a.put d undef) w → Q (.panic c) a w) (hw : Region.wanted oi (yielded ops a.tmps) = false) (hS : S w)
    (h : wpAnyH P md ops Q S fuel (listed.setIfInBounds i true) (a.put d undef) w) : wpAnyH P md ops Q S (fuel + 1) listed a w := by
  subst hd
  exact wpAnyH_take hi hs hf hr hQ (.inr ⟨hw, rfl⟩) hS h
/-- one operation alone may come up -/
theorem hOnly (i : Nat) {oi : Oper} {fuel : Nat} {listed : Array Bool} {a : Act} {w : World} (hi : ops[i]? = some oi) (hr : Region.ready md ops listed = [i])
    (h : ∀ K : Act → World → Prop, Shut (∀ a w, S w → (S w → wpAnyH P md ops Q S fuel (listed.setIfInBounds i true) a w) → K a w) → if Region.wanted oi (yielded ops a.tmps) = true then Oper.wp P oi a w K Q else K (a.put oi.dst undef) w) : wpAnyH P md ops Q S (fuel + 1) listed a w :=
  wpAnyH_ready hr (by simp) (AllReadyH.cons hi h AllReadyH.nil)
end
theorem run_plcMid {op : Oper} {a : Act} {w : World} (x : Operand) (ho : op.op = .load 125 x) {g : Nat} {s m : Int} (hk : w.rangeAt g 0 (plL s m)) (hx : a.eval x = .pointer (some ⟨g, 0, none⟩)) : (execOp a.eval op).run Try.prog w = .ok (.value (.agg (plL s m).toArray)) w := by
  unfold execOp
  simp only [ho, hx, Instr.loadAt, Instr.sureAddr, Sem.run_bind, Sem.run_map, Sem.run_pure, Result.andThen_ok, run_loadVar_mid w g 0 125 _ _ hk Try.underlying125 rfl (info_pl s m)]
def celParts (x y : Value) : Array (Nat × Value) := #[(0, x), (1, y)]
theorem cel_fill {s m : Int} {b : List Int} (hb : b.length = 64) : Instr.fill (fun i => (#[(0, 2), (2, 64)] : Array (Nat × Nat))[i]?) (celL ⟨0, 0, zeros⟩).toArray [(0, .agg (plL s m).toArray), (1, blk b)] = some (celL ⟨s, m, b⟩).toArray := by
  have e0 : (celL ⟨0, 0, zeros⟩) = [] ++ plL 0 0 ++ nums .u8 zeros := rfl
  rw [e0, fill_one _ 0 0 2 rfl [] (plL 0 0) (nums .u8 zeros) (plL s m) rfl rfl rfl]
  have e1 : [] ++ plL s m ++ nums .u8 zeros = plL s m ++ nums .u8 zeros ++ [] := by simp
  rw [e1, blk, fill_one _ 1 2 64 rfl (plL s m) (nums .u8 zeros) [] (nums .u8 b) rfl (by rw [nums_length, zeros_length]) (by rw [nums_length, hb])]
  simp [Instr.fill, celL, plL]
theorem run_celBuild {s m : Int} {b : List Int} (hb : b.length = 64) (w : World) : (Instr.build 127 #[(0, .agg (plL s m).toArray), (1, blk b)]).run Try.prog w = .ok (cel ⟨s, m, b⟩) w := by
  refine run_build w 127 _ _ ?_
  have h : Try.prog.built 127 [(0, .agg (plL s m).toArray), (1, blk b)] = Instr.fill (fun i => (#[(0, 2), (2, 64)] : Array (Nat × Nat))[i]?) (celL ⟨0, 0, zeros⟩).toArray [(0, .agg (plL s m).toArray), (1, blk b)] := by kernel_rfl
  rw [show (#[(0, Value.agg (plL s m).toArray), (1, blk b)] : Array (Nat × Value)).toList = [(0, .agg (plL s m).toArray), (1, blk b)] from rfl, h, cel_fill hb]
theorem run_bsCel {c : Ce} (hb : c.b.length = 64) (w : World) : (Instr.buildSlice 40 1 #[(0, cel c)]).run Try.prog w = .ok (.slice (some ⟨w.heap.size, 0, none⟩) 1 1) (w.alloc (.cells (celL c).toArray 127)) := by
  have hi := infoC
  cases hq : Try.prog.info? 127 with
  | none => simp [hq] at hi
  | some ie =>
    simp only [hq, Option.map_some, Option.some.injEq, Prod.mk.injEq] at hi
    obtain ⟨h1, h2, h3⟩ := hi
    refine run_buildSlice w _ _ 1 _ _ ie zeroCelV Try.underlying40 hq h1 (by rw [h2]; decide) (by rw [h2]; decide) ?_
    rw [h2]
    have hz : ((Array.range (1 * 66)).map (zeroCelV.cells[· % zeroCelV.cells.size]!)) = ([] ++ celL ⟨0, 0, zeros⟩ ++ []).toArray := by kernel_rfl
    rw [hz]
    show Instr.fill (fun i => some (i * 66, 66)) ([] ++ celL ⟨0, 0, zeros⟩ ++ []).toArray [(0, cel c)] = some (celL c).toArray
    rw [cel, fill_one (fun i => some (i * 66, 66)) 0 0 66 rfl [] (celL ⟨0, 0, zeros⟩) [] (celL c) rfl (celL_length zeros_length) (celL_length hb)]
    simp [Instr.fill]
abbrev TC : TypeId := 127
section
variable {ops : Array Oper} {rest : List Oper} {op : Oper} {a : Act} {w : World} {Q : Exit → Act → World → Prop}
/-- four bytes of a slice, as an array's place -/
theorem arr4At (x : Operand) (ho : op.op = .sliceToArrayPointer 132 x) {A : Option Addr} {c : Nat} (hx : a.eval x = .slice A 4 c) (hw : Region.wanted op (yielded ops a.tmps) = true)
    (h : wpList Try.prog ops Q rest (a.put op.dst (.pointer A)) w) : wpList Try.prog ops Q (op :: rest) a w := by
  refine val_step ?_ hw h
  unfold execOp
  have h1 : (Instr.arrayAt 132 (.slice A 4 c)).run Try.prog w = .ok (.pointer A) w := run_arrayAt _ _ _ _ _ _ _ Try.underlying132 (Nat.le_refl _)
  simp only [ho, hx, h1, Sem.run_bind, Sem.run_map, Sem.run_pure, Result.andThen_ok]
theorem info_a4 {b : List Int} (h : b.length = 4) : (Try.prog.info? 132).map (·.size) = some (nums .u8 b).length := by
  rw [nums_length, h]; kernel_rfl
theorem arr4Mid (x : Operand) (ho : op.op = .load 132 x) {g o : Nat} {b : List Int} (hl : b.length = 4) (hr : w.rangeAt g o (nums .u8 b)) (hx : a.eval x = .pointer (some ⟨g, o, none⟩)) (hw : Region.wanted op (yielded ops a.tmps) = true)
    (h : wpList Try.prog ops Q rest (a.put op.dst (.agg (nums .u8 b).toArray)) w) : wpList Try.prog ops Q (op :: rest) a w := by
  refine val_step ?_ hw h
  unfold execOp
  simp only [ho, hx, Instr.loadAt, Instr.sureAddr, Sem.run_bind, Sem.run_map, Sem.run_pure, Result.andThen_ok, run_loadVar_mid w g o 132 _ _ hr Try.underlying132 rfl (info_a4 hl)]
theorem guard_a4 : Try.prog.eqGuardType Try.prog.depth 132 = false := by kernel_rfl
theorem arr4Zero (ho : op.op = .build 132 #[]) (hw : Region.wanted op (yielded ops a.tmps) = true)
    (h : wpList Try.prog ops Q rest (a.put op.dst (.agg (nums .u8 (Z 4)).toArray)) w) : wpList Try.prog ops Q (op :: rest) a w := by
  refine val_step ?_ hw h
  have hrun : (Instr.build 132 #[]).run Try.prog w = .ok (.agg (nums .u8 (Z 4)).toArray) w := by kernel_rfl
  unfold execOp
  simp only [ho, List.map_toArray, List.map_nil, hrun, Sem.run_bind, Sem.run_map, Sem.run_pure, Result.andThen_ok]
theorem arr4Neq (x y : Operand) (t : TypeId) (ho : op.op = .binOp .neq 132 x y t) {xs ys : List Int} (hx : a.eval x = .agg (nums .u8 xs).toArray) (hy : a.eval y = .agg (nums .u8 ys).toArray) (hlx : xs.length = 4) (hly : ys.length = 4) (b : Bool) (hb : (!decide (xs = ys)) = b) (hw : Region.wanted op (yielded ops a.tmps) = true)
    (h : wpList Try.prog ops Q rest (a.put op.dst (.bool b)) w) : wpList Try.prog ops Q (op :: rest) a w := by
  subst hb
  refine val_step ?_ hw h
  have h1 : (eqGuard .neq 132 x y (.agg (nums .u8 xs).toArray) (.agg (nums .u8 ys).toArray)).run Try.prog w = .ok () w := run_eqGuard_agg w .neq _ x y _ _ guard_a4
  have h2 : (binOp .neq 132 (.agg (nums .u8 xs).toArray) (.agg (nums .u8 ys).toArray)).run Try.prog w = .ok (.bool (!decide (xs = ys))) w := by
    rw [run_neq_struct]
    have h3 := run_equalIn_ints w 9998 _ _ 4 .u8 Try.underlying132 R.under_u8 R.size_u8 xs ys hlx hly
    rw [h3]; rfl
  unfold execOp
  simp only [ho, hx, hy, Sem.run_bind, Sem.run_map, h1, h2, Result.andThen_ok, Sem.run_pure]
end
/-! what Get answers -/
/-- a byte of a cell's place -/
def rdB (l : List (List Int)) (i j : Nat) : Int := rd (l.getD (i / 16) []) ((i % 16 * 4 + j : Nat) : Int)
def vG (l : List (List Int)) (i : Nat) : Nat := (rdB l i 0).toNat + 256 * (rdB l i 1).toNat
def mG (l : List (List Int)) (i : Nat) : Nat := (rdB l i 2).toNat
def zG (l : List (List Int)) (i : Nat) : Nat := (rdB l i 3).toNat
def okC (l : List (List Int)) (i : Nat) : Bool := mayP (vG l i : Int) (mG l i : Int) && ((zG l i : Int) == 0)
def ceG (l : List (List Int)) (k i : Nat) : Ce := ⟨(vG l i : Int), (mG l i : Int), l.getD (k + i) []⟩
def celG (l : List (List Int)) (n : Nat) : List Ce := (List.range n).map (ceG l (hdN n))
def p4 (l : List (List Int)) (i : Nat) : List Int := ((l.getD (i / 16) []).drop (i % 16 * 4)).take 4
def zeroG (l : List (List Int)) (i : Nat) : Bool := decide (p4 l i = Z 4)
def okG (l : List (List Int)) (n : Nat) : Bool := (List.range n).all (okC l) && (List.range (16 * hdN n)).all fun i => decide (i < n) || zeroG l i
def errG (l : List (List Int)) (n : Int) : Int := if T.sizeN n = 0 then 2 else if l.length < T.sizeN n then 4 else if T.sizeN n < l.length then 5 else if okG l n.toNat = true then 0 else 5
theorem rdB_byte {l : List (List Int)} (hw : ∀ b ∈ l, Wf8 b) (i j : Nat) : 0 ≤ rdB l i j ∧ rdB l i j < 256 := by
  have hw2 : Wf8 (l.getD (i / 16) []) := by
    rw [List.getD_eq_getElem?_getD]
    cases h : l[i / 16]? with
    | none => intro x hx; simp at hx
    | some b => exact hw b (List.mem_of_getElem? h)
  exact rd_byte hw2 _
theorem celG_length (l : List (List Int)) (n : Nat) : (celG l n).length = n := by simp [celG]
theorem celG_take (l : List (List Int)) (n q : Nat) (hq : q < n) : (celG l n).take (q + 1) = (celG l n).take q ++ [ceG l (hdN n) q] := by
  rw [List.take_succ_eq_append_getElem (by rw [celG_length]; exact hq)]
  simp [celG]
/-- what read tells of a cell's place -/
def ReadR (A : Option Addr) (cap : Nat) (l : List (List Int)) (i : Nat) : Prop := ∀ w : World, Bks w A l → Calls Try.prog 122 #[.slice A l.length cap, .int .i64 (i : Int)] w fun e w' => e = .returned (.tuple #[.agg (plL (vG l i : Int) (mG l i : Int)).toArray, .bool (okC l i)]) ∧ Below w.heap.size w w'
theorem get2 {b : List Int} (h8 : Wf8 b) (hl : b.length = 4) (A : Option Addr) (c : Nat) (w : World) (h4 : 4 ≤ c) (hc : c ≤ 9223372036854775807) (hr : ReadsInt w .u8 A 4 b) : Calls Try.prog 44 #[.slice A 4 c, .int .i64 0, .int .i64 2] w fun e w' => e = .returned (.tuple #[.int .u64 (((rd b 0).toNat + 256 * (rd b 1).toNat : Nat) : Int), .int .i64 0]) ∧ Below w.heap.size w w' := by
  have h := Get_any A c b h8 0 2 ⟨by decide, by decide⟩ ⟨by decide, by decide⟩ (by rw [hl]; exact h4) hc w (by rw [hl]; exact hr)
  have hg := gets_ok (xs := b) (a := 0) (s := 2) (by decide) (by decide) (by rw [hl]; decide)
  rw [hl] at h
  refine h.mono ?_
  rintro e w' ⟨rfl, j, rfl⟩
  have hv : vle (bat b 0) 2 = (rd b 0).toNat + 256 * (rd b 1).toNat := by simp [vle, bat, Nat.mul_comm]
  refine ⟨?_, below_drewN (Below.refl _ _) j⟩
  have hg2 : gets b 0 2 = ((rd b 0).toNat + 256 * (rd b 1).toNat, 0) := by rw [← hv]; exact hg
  rw [hg2]
theorem rd_sub {b : List Int} {k j : Nat} (hj : j < 4) (hk : k + 4 ≤ b.length) : rd ((b.drop k).take 4) (j : Int) = rd b ((k + j : Nat) : Int) := by
  rw [rd, rd, Int.toNat_natCast, Int.toNat_natCast, List.getD_eq_getElem?_getD, List.getD_eq_getElem?_getD, List.getElem?_take, if_pos hj, List.getElem?_drop]
/-- read, where the place may be -/
theorem read_may (A : Option Addr) (cap : Nat) {l : List (List Int)} (hw8 : ∀ b ∈ l, Wf8 b) {i : Nat} (hi : i < 512) (hal : i / 16 < l.length) (hm : mayP (vG l i : Int) (mG l i : Int) = true) : ReadR A cap l i := fun w HL => by
  obtain ⟨g, o, hA, hg, hr, hb⟩ := HL.at_ (i / 16) hal
  have e : l.getD (i / 16) [] = l[i / 16] := by rw [List.getD_eq_getElem?_getD, List.getElem?_eq_getElem hal]; rfl
  obtain ⟨bk, hbk⟩ : ∃ bk, bk = l[i / 16] := ⟨_, rfl⟩
  have h8 := hw8 _ (List.getElem_mem hal)
  rw [← hbk] at hr hb e h8
  have hlt : i % 16 < 16 := Nat.mod_lt _ (by decide)
  have b0 := rdB_byte hw8 i 0
  have b1 := rdB_byte hw8 i 1
  have b2 := rdB_byte hw8 i 2
  have b3 := rdB_byte hw8 i 3
  have sub8 : Wf8 ((bk.drop (i % 16 * 4)).take 4) := fun x hx => h8 x (List.mem_of_mem_drop (List.mem_of_mem_take hx))
  have subl : ((bk.drop (i % 16 * 4)).take 4).length = 4 := by rw [List.length_take, List.length_drop]; omega
  have r0 : rd ((bk.drop (i % 16 * 4)).take 4) 0 = rdB l i 0 := by rw [rdB, e]; exact rd_sub (j := 0) (by decide) (by omega)
  have r1 : rd ((bk.drop (i % 16 * 4)).take 4) 1 = rdB l i 1 := by rw [rdB, e]; exact rd_sub (j := 1) (by decide) (by omega)
  have hcap := HL.cap
  have h := read_T A cap l i (i / 16) (i % 16) hlt (by omega) (Lib.hid (by omega)) hal bk (Lib.hid hb) (vG l i) (mG l i) (zG l i) (by rw [vG]; omega) (by rw [mG]; omega) (by rw [zG]; omega)
    (Lib.hid fun A' c w' h4 hc hrd => by
      have h2 := get2 sub8 subl A' c w' h4 hc hrd
      rw [r0, r1] at h2
      exact h2)
    (Lib.hid fun w' => by
      have h2 := may_any (vG l i : Int) (mG l i : Int) w'
      rw [hm] at h2
      exact h2)
    (Lib.hid (by rw [mG, rdB, e]; rw [rdB, e] at b2; omega)) (Lib.hid (by rw [zG, rdB, e]; rw [rdB, e] at b3; omega)) hcap g o hA w hg (Lib.hid hr)
  refine h.mono ?_
  rintro e2 w2 ⟨rfl, hb2⟩
  exact ⟨by rw [okC, hm, Bool.true_and], hb2⟩
end Go.Proofs.Ytdchcggllcgokaa.Y

namespace Go.Proofs.Ytdchcggllcgokaa.Y
open Go.RowKit Go.Proofs.Ytdchcggllcgokaa.L Go.Proofs.Ytdchcggllcgokaa.U Go.Proofs.Ytdchcggllcgokaa.R Go.Proofs.Ytdchcggllcgokaa.E Go.Proofs.YtdchcggllcgokaaW.PrintWords
set_option linter.unusedVariables false
set_option linter.unusedSimpArgs false
def GetR (l : List (List Int)) (n : Int) (b : Nat) (e : Ending) (W : World) : Prop := (errG l n ≠ 0 ∧ e = .returned (.tuple #[.slice none 0 0, .int .i64 (errG l n)])) ∨ (errG l n = 0 ∧ ∃ A c, e = .returned (.tuple #[.slice A (celG l n.toNat).length c, .int .i64 0]) ∧ OCl b W A c (celG l n.toNat))
theorem run_addR {op : Oper} {a : Act} (x y : Operand) (ho : op.op = .binOp .add 3 x y 3) {u v r : Nat} (hx : a.eval x = .int .i64 (u : Int)) (hy : a.eval y = .int .i64 (v : Int)) (hr : r = u + v) (hb : r < 9223372036854775808) (w : World) : (execOp a.eval op).run Try.prog w = .ok (.value (.int .i64 (r : Int))) w := by
  subst hr
  have h1 : -9223372036854775808 ≤ (u : Int) + (v : Int) := by omega
  have h2 : (u : Int) + (v : Int) ≤ 9223372036854775807 := by omega
  unfold execOp
  simp only [ho, hx, hy]
  go_simp
  rw [IntKind.wrap_i64]
  omega
theorem run_idxB {op : Oper} {a : Act} (x y : Operand) (ho : op.op = .indexAddr 42 x y) {g o n c r : Nat} (hx : a.eval x = .slice (some ⟨g, o, none⟩) n c) (hy : a.eval y = .int .i64 (r : Int)) (hr : r < n) (w : World) : (execOp a.eval op).run Try.prog w = .ok (.value (.pointer (some ⟨g, o + r * 64, none⟩))) w := by
  have h0 : (0 : Int) ≤ (r : Int) := by omega
  have h1 : (r : Int) < (n : Int) := by omega
  unfold execOp
  simp only [ho, hx, hy]
  go_simp
theorem run_celB {op : Oper} {a : Act} (x y : Operand) (ho : op.op = .build 127 #[(0, x), (1, y)]) {s m : Int} {b : List Int} (hx : a.eval x = .agg (plL s m).toArray) (hy : a.eval y = blk b) (hb : b.length = 64) (w : World) : (execOp a.eval op).run Try.prog w = .ok (.value (cel ⟨s, m, b⟩)) w := by
  unfold execOp
  simp only [ho, List.map_toArray, List.map_cons, List.map_nil, hx, hy, run_celBuild hb, Sem.run_bind, Sem.run_map, Sem.run_pure, Result.andThen_ok]
theorem wp_bsCel {op : Oper} {a : Act} {w : World} {K : Act → World → Prop} {Q : Exit → Act → World → Prop} (x : Operand) (ho : op.op = .buildSlice 40 1 #[(0, x)]) {c : Ce} (hb : c.b.length = 64) (hx : a.eval x = cel c)
    (h : K (a.put op.dst (.slice (some ⟨w.heap.size, 0, none⟩) 1 1)) (w.alloc (.cells (celL c).toArray TC))) : Oper.wp Try.prog op a w K Q := by
  unfold Oper.wp execOp
  simp only [ho, List.map_toArray, List.map_cons, List.map_nil, hx, run_bsCel hb, Sem.run_bind, Sem.run_map, Sem.run_pure, Result.andThen_ok]
  exact h
theorem celG_len {l : List (List Int)} {n : Nat} (h : ∀ b ∈ l, b.length = 64) (hl : hdN n + n ≤ l.length) : ∀ c ∈ celG l n, c.b.length = 64 := fun c hc => by
  obtain ⟨i, hi, rfl⟩ := List.mem_map.1 hc
  have hi2 := List.mem_range.1 hi
  have hlt : hdN n + i < l.length := by omega
  show (l.getD (hdN n + i) []).length = 64
  rw [List.getD_eq_getElem?_getD, List.getElem?_eq_getElem hlt]
  exact h _ (List.getElem_mem hlt)
theorem rng_part {W : World} {g o k n : Nat} {b : List Int} (h : W.rangeAt g o (nums .u8 b)) : W.rangeAt g (o + k) (nums .u8 ((b.drop k).take n)) := fun j v hv => by
  rw [Nat.add_assoc]
  refine h (k + j) v ?_
  have hj : j < n := by
    have h1 := (List.getElem?_eq_some_iff.1 hv).1
    rw [nums_length, List.length_take] at h1
    omega
  simp only [nums, List.getElem?_map, List.getElem?_take, if_pos hj, List.getElem?_drop] at hv ⊢
  exact hv
set_option maxRecDepth 100000 in
set_option maxHeartbeats 1500000 in
theorem Get_walk (A : Option Addr) (cap : Nat) (l : List (List Int)) (ni : Int) (hni : -9223372036854775808 ≤ ni ∧ ni ≤ 9223372036854775807) (PR : Hid (∀ i, i < 32 → i / 16 < l.length → ReadR A cap l i)) (w : World) (HL : Hid (Bks w A l)) : Calls Try.prog 54 #[.slice A l.length cap, .int .i64 ni] w fun e w' => GetR l ni w.heap.size e w' ∧ Below w.heap.size w w' := by
  have hcap := HL.out.cap
  have HB := Lib.hid (Below.refl w.heap.size w)
  have PS := Lib.hid (fun w => T.Size_any ni hni w)
  obtain ⟨z, hz⟩ : ∃ z, z = T.sizeN ni := ⟨_, rfl⟩
  rw [← hz] at PS
  obtain ⟨n1, n2⟩ := hni
  by_cases h0 : z = 0
  · have f1 : ((z : Int) == 0) = true := by subst h0; rfl
    have hE := Lib.hid (show errG l ni = 2 by rw [errG, ← hz, if_pos h0])
    clear h0 hz
    go_enter Try.func54, Try.ntmps54
    go_wp2_with (first
      | (go_skip)
      | (go_at_call 49; refine (PS.out _).mono ?_; rintro e w5 ⟨rfl, rfl⟩))
    go_ret2
    exact ⟨.inl ⟨by rw [hE.out]; decide, by rw [hE.out]; rfl⟩, HB.out⟩
  have f1 : ((z : Int) == 0) = false := by rw [beq_eq_false_iff_ne]; omega
  by_cases h1 : l.length < z
  · have f2 : decide ((l.length : Int) < (z : Int)) = true := by simp; omega
    have hE := Lib.hid (show errG l ni = 4 by rw [errG, ← hz, if_neg h0, if_pos h1])
    clear h0 hz
    go_enter Try.func54, Try.ntmps54
    go_wp2_with (first
      | (go_skip)
      | (go_at_call 49; refine (PS.out _).mono ?_; rintro e w5 ⟨rfl, rfl⟩))
    go_ret2
    exact ⟨.inl ⟨by rw [hE.out]; decide, by rw [hE.out]; rfl⟩, HB.out⟩
  have f2 : decide ((l.length : Int) < (z : Int)) = false := by simp; omega
  by_cases h2 : z < l.length
  · have f3 : decide ((z : Int) < (l.length : Int)) = true := by simp; omega
    have hE := Lib.hid (show errG l ni = 5 by rw [errG, ← hz, if_neg h0, if_neg h1, if_pos h2])
    clear h0 hz
    go_enter Try.func54, Try.ntmps54
    go_wp2_with (first
      | (go_skip)
      | (go_at_call 49; refine (PS.out _).mono ?_; rintro e w5 ⟨rfl, rfl⟩))
    go_ret2
    exact ⟨.inl ⟨by rw [hE.out]; decide, by rw [hE.out]; rfl⟩, HB.out⟩
  have f3 : decide ((z : Int) < (l.length : Int)) = false := by simp; omega
  have hE0 : errG l ni = if okG l ni.toNat = true then 0 else 5 := by rw [errG, ← hz, if_neg h0, if_neg h1, if_neg h2]
  obtain ⟨n, rfl, n32, n1p⟩ : ∃ n : Nat, ni = n ∧ n ≤ 32 ∧ 1 ≤ n := by
    rw [T.sizeN] at hz
    split at hz
    · exact ⟨ni.toNat, by omega, by omega, by omega⟩
    · omega
  rw [Int.toNat_natCast] at hE0
  have PH := Lib.hid (fun w => T.heads_any n n1p n32 w)
  obtain ⟨hh, hhd⟩ : ∃ hh, hh = hdN n := ⟨_, rfl⟩
  have hsz : z = hh + n := by rw [hz, T.sizeN, if_pos ⟨by omega, by omega⟩, hhd, hdN]; simp
  rw [show (n + 15) / 16 = hh by rw [hhd]; rfl] at PH
  have h16 : n ≤ 16 * hh ∧ hh ≤ 2 ∧ 16 * hh < n + 16 := by rw [hhd, hdN]; omega
  have HLL := Lib.hid (show l.length = hh + n by omega)
  have HE := Lib.hid hE0
  have HH := Lib.hid hhd
  replace PR := Lib.hid (fun (i : Nat) (hi : i < n) => PR.out i (by omega) (by omega))
  have HO := Lib.hid (World.ownsRow_nil w w.heap.size TC 66)
  subst hsz
  have f4 : decide ((l.length : Int) < (hh : Int) + (n : Int)) = false := by have := HLL.out; simp; omega
  have f5 : decide ((hh : Int) + (n : Int) < (l.length : Int)) = false := by have := HLL.out; simp; omega
  have f6 : ((hh : Int) + (n : Int) == 0) = false := by rw [beq_eq_false_iff_ne]; omega
  clear h0 h1 h2 hz hE0 hhd
  go_enter Try.func54, Try.ntmps54
  go_wp2_with (first
    | (go_skip)
    | (go_at_call 118; refine (PH.out _).mono ?_; rintro e w4 ⟨rfl, rfl⟩)
    | (go_at_call 49; refine (PS.out _).mono ?_; rintro e w5 ⟨rfl, rfl⟩))
  go_loopw [8, 31] (fun xv iv wr => ∃ (x : Value) (q : Nat), x = xv ∧ q ≤ n ∧ iv = .int .i64 (q : Int) ∧ Hid (∀ j, j < q → okC l j = true) ∧ Hid (wr.ownsRow w.heap.size TC 66 x q (((celG l n).take q).map celL).flatten) ∧ Hid (Below w.heap.size w wr)) (fun _ iv _ => n - (intOf iv).toNat)
  case atStart => exact ⟨_, 0, rfl, Nat.zero_le _, rfl, Lib.hid (fun j h => absurd h (by omega)), HO, HB⟩
  case round =>
    clear HB HO
    obtain ⟨x, q, rfl, hq, rfl, HA, HO, HB⟩ := hrel
    have hi0 : (0 : Int) ≤ (q : Int) := by omega
    have lbh := HB.out.size
    by_cases hlt : q < n
    · have eC := celG_take l n q hlt
      rw [← HH.out, ceG] at eC
      obtain ⟨r, hr⟩ : ∃ r, r = hh + q := ⟨_, rfl⟩
      have hrl : r < l.length := by have := HLL.out; omega
      have HRr := Lib.hid hr
      rw [← hr] at eC
      obtain ⟨g, o, rfl, hg, HR, hb⟩ := HL.out.at_ r hrl
      have eb : l.getD r [] = l[r] := by rw [List.getD_eq_getElem?_getD, List.getElem?_eq_getElem hrl]; rfl
      rw [eb] at eC
      obtain ⟨z, hz⟩ : ∃ z, okC l q = z := ⟨_, rfl⟩
      have PR1 := Lib.hid (PR.out q hlt _ (HL.out.below HB.out))
      rw [hz] at PR1
      have HZ := Lib.hid hz
      obtain ⟨s, hs⟩ : ∃ s, s = vG l q := ⟨_, rfl⟩
      obtain ⟨m, hm⟩ : ∃ m, m = mG l q := ⟨_, rfl⟩
      rw [← hs, ← hm] at PR1 eC
      generalize l[r] = b at HR hb eC
      clear hs hm hz hr eb
      have HBl := Lib.hid hb
      have EC := Lib.hid eC
      clear hb eC
      have HR := Lib.hid HR
      have hG := Lib.hid hg
      cases z with
      | false =>
        have tok0 : True := trivial
        have hE := Lib.hid (show errG l (n : Int) = 5 by
          rw [HE.out, if_neg]
          intro h
          have h2 := (Bool.and_eq_true_iff.1 h).1
          have h3 := List.all_eq_true.1 h2 q (List.mem_range.2 hlt)
          rw [HZ.out] at h3
          exact absurd h3 (by decide))
        go_wp2_with (first
          | (go_skip)
          | (go_at_call 122; refine PR1.out.mono ?_; rintro e w3 ⟨rfl, hb⟩; replace HB := Lib.hid (below_ext HB.out hb); have hz3 := hb.size; clear hb)
          | (have _t := tok0; refine F.rowAlloc 125 rfl _ zero_pl rfl ?_; intro w1 hk hb hz1; replace HB := Lib.hid (below_ext HB.out hb); have K10 := Lib.hid hk; clear hk hb _t tok0)
          | (refine F.rowStore (cs := (plL (s : Int) (m : Int)).toArray) 125 (.tmp 10) (.tmp 38) rfl K10.out rfl rfl (info_pl _ _) rfl (one_pl _ _) rfl ?_; intro w2 hk hg2; replace HB := Lib.hid (below_at HB.out hg2 (by omega) K10.out.lt); replace K10 := Lib.hid hk; clear hk hg2))
        go_ret2
        exact ⟨.inl ⟨by rw [hE.out]; decide, by rw [hE.out]; rfl⟩, HB.out⟩
      | true =>
        have tok0 : True := trivial
        go_wp2_with (first
          | (go_skip)
          | (go_at_call 122; refine PR1.out.mono ?_; rintro e w3 ⟨rfl, hb⟩; replace HO := Lib.hid (pw_own_below HO.out hb); replace HB := Lib.hid (below_ext HB.out hb); have hz3 := hb.size; clear hb)
          | (have _t := tok0; refine F.rowAlloc 125 rfl _ zero_pl rfl ?_; intro w1 hk hb hz1; replace HO := Lib.hid (pw_own_below HO.out hb); replace HB := Lib.hid (below_ext HB.out hb); have K10 := Lib.hid hk; clear hk hb _t tok0)
          | (refine F.rowStore (cs := (plL (s : Int) (m : Int)).toArray) 125 (.tmp 10) (.tmp 38) rfl K10.out rfl rfl (info_pl _ _) rfl (one_pl _ _) rfl ?_; intro w2 hk hg2; replace HO := Lib.hid (own_other HO.out hg2 (.inr (Ne.symm (own_ne HO.out K10.out (by decide))))); replace HB := Lib.hid (below_at HB.out hg2 (by omega) K10.out.lt); replace K10 := Lib.hid hk; clear hk hg2))
        refine wp_region_held_drew (S := fun w' => Row 125 w' w3.heap.size (plL (s : Int) (m : Int)).toArray ∧ w'.rangeAt g (o + r * 64) (nums .u8 b)) (by kernel_rfl) ⟨K10.out, fun j v hv => ((below_drewN HB.out 1).cell (p := ⟨g, o + r * 64 + j, none⟩) hG.out).trans (HR.out j v hv)⟩ (fun hHeld => ?_)
        refine hTake 0 (x) rfl (some 42) rfl (by kernel_rfl) (by kernel_rfl) (by kernel_rfl) (fun _ _ _ h => h) rfl (fun _ _ => rfl) hHeld ?_
        simp only [Act.put, List.setIfInBounds_toArray, List.set_cons_zero, List.set_cons_succ]
        refine hTake 1 (.agg (plL (s : Int) (m : Int)).toArray) rfl (some 43) rfl (by kernel_rfl) (by kernel_rfl) (by kernel_rfl) (fun _ _ _ h => h) rfl (fun w' h => run_plcMid (.tmp 10) rfl (row_range h.1) rfl) hHeld ?_
        simp only [Act.put, List.setIfInBounds_toArray, List.set_cons_zero, List.set_cons_succ]
        refine hTake 2 (.slice (some ⟨g, o, none⟩) l.length cap) rfl (some 44) rfl (by kernel_rfl) (by kernel_rfl) (by kernel_rfl) (fun _ _ _ h => h) rfl (fun _ _ => rfl) hHeld ?_
        simp only [Act.put, List.setIfInBounds_toArray, List.set_cons_zero, List.set_cons_succ]
        refine hTake 3 (.int .i64 (hh : Int)) rfl (some 45) rfl (by kernel_rfl) (by kernel_rfl) (by kernel_rfl) (fun _ _ _ h => h) rfl (fun _ _ => rfl) hHeld ?_
        simp only [Act.put, List.setIfInBounds_toArray, List.set_cons_zero, List.set_cons_succ]
        refine hTake 4 (.int .i64 (q : Int)) rfl (some 46) rfl (by kernel_rfl) (by kernel_rfl) (by kernel_rfl) (fun _ _ _ h => h) rfl (fun _ _ => rfl) hHeld ?_
        simp only [Act.put, List.setIfInBounds_toArray, List.set_cons_zero, List.set_cons_succ]
        refine hTake 5 (.int .i64 (r : Int)) rfl (some 47) rfl (by kernel_rfl) (by kernel_rfl) (by kernel_rfl) (fun _ _ _ h => h) rfl (fun w' h => run_addR (.tmp 45) (.tmp 46) rfl rfl rfl HRr.out (by omega) w') hHeld ?_
        simp only [Act.put, List.setIfInBounds_toArray, List.set_cons_zero, List.set_cons_succ]
        refine hTake 6 (.pointer (some ⟨g, o + r * 64, none⟩)) rfl (some 48) rfl (by kernel_rfl) (by kernel_rfl) (by kernel_rfl) (fun _ _ _ h => h) rfl (fun w' h => run_idxB (.tmp 44) (.tmp 47) rfl rfl rfl hrl w') hHeld ?_
        simp only [Act.put, List.setIfInBounds_toArray, List.set_cons_zero, List.set_cons_succ]
        refine hTake 7 (blk b) rfl (some 49) rfl (by kernel_rfl) (by kernel_rfl) (by kernel_rfl) (fun _ _ _ h => h) rfl (fun w' h => run_blkMid (.tmp 48) rfl HBl.out h.2 rfl) hHeld ?_
        simp only [Act.put, List.setIfInBounds_toArray, List.set_cons_zero, List.set_cons_succ]
        refine hTake 8 (cel ⟨(s : Int), (m : Int), b⟩) rfl (some 50) rfl (by kernel_rfl) (by kernel_rfl) (by kernel_rfl) (fun _ _ _ h => h) rfl (fun w' h => run_celB (.tmp 43) (.tmp 49) rfl rfl rfl HBl.out w') hHeld ?_
        simp only [Act.put, List.setIfInBounds_toArray, List.set_cons_zero, List.set_cons_succ]
        refine hOnly 9 rfl (by kernel_rfl) (fun K hK => ?_)
        rw [if_pos (by rfl)]
        refine wp_bsCel (.tmp 50) rfl (show (⟨(s : Int), (m : Int), b⟩ : Ce).b.length = 64 from HBl.out) rfl ?_
        simp only [Act.put, List.setIfInBounds_toArray, List.set_cons_zero, List.set_cons_succ]
        refine hK.out _ _ ⟨K10.out.below ((below_drewN (Below.refl w2.heap.size w2) 1).alloc (Nat.le_refl _) _), fun j v hv => (((below_drewN HB.out 1).alloc HB.out.size _).cell (p := ⟨g, o + r * 64 + j, none⟩) hG.out).trans (HR.out j v hv)⟩ (fun hHeld => ?_)
        clear hK K
        refine hOnly 10 rfl (by kernel_rfl) (fun K hK => ?_)
        refine step_append_cells (w0 := w) w.heap.size rfl (.tmp 42) (.tmp 51) 40 TC zeroCelV 66 80 rfl Try.underlying40 infoC zsC (by decide) (by decide) x q (((celG l n).take q).map celL).flatten (celL ⟨(s : Int), (m : Int), b⟩) rfl rfl (celL_length HBl.out) (one_celL _) HO.out (below_drewN HB.out 1) HB.out.size (by omega) ?_
        intro v1 w9 ho9 hb9 hg9 hat9
        simp only [Act.put, List.setIfInBounds_toArray, List.set_cons_zero, List.set_cons_succ]
        refine hK.out _ _ ⟨blk_grown (show Row 125 w2.drew w3.heap.size (plL (s : Int) (m : Int)).toArray from K10.out) hg9 (own_ne HO.out K10.out (by decide)), fun j v hv => by rw [hb9.cell (p := ⟨g, o + r * 64 + j, none⟩) hG.out]; exact HR.out j v hv⟩ (fun hHeld => ?_)
        clear hK K
        refine hTake 11 (v1) rfl (some 8) rfl (by kernel_rfl) (by kernel_rfl) (by kernel_rfl) (fun _ _ _ h => h) rfl (fun _ _ => rfl) hHeld ?_
        simp only [Act.put, List.setIfInBounds_toArray, List.set_cons_zero, List.set_cons_succ]
        refine wpAnyH_done (by kernel_rfl) ?_ _
        go_wp2
        go_roundw
        case rel =>
          have HA2 : Hid (∀ j, j < q + 1 → okC l j = true) := Lib.hid fun j h => by
            rcases Nat.lt_or_ge j q with h3 | h3
            · exact HA.out j h3
            · obtain rfl : j = q := by omega
              exact HZ.out
          have hO := ho9
          have e9 : (((celG l n).take q).map celL).flatten ++ celL ⟨(s : Int), (m : Int), b⟩ = (((celG l n).take (q + 1)).map celL).flatten := by rw [EC.out]; simp
          rw [e9] at hO
          exact ⟨v1, q + 1, rfl, by omega, by go_num, HA2, Lib.hid hO, Lib.hid hb9⟩
        case measure => simp [intOf]; omega
    · obtain rfl : q = n := by omega
      have hO := HO.out
      rw [List.take_of_length_le (by rw [celG_length]; exact Nat.le_refl _)] at hO
      obtain ⟨A9, c9, rfl⟩ := own_slice hO
      replace HO := Lib.hid hO
      clear hO
      go_wp2
      go_loopw [12] (fun iv wr => ∃ i : Nat, q ≤ i ∧ i ≤ 16 * hh ∧ iv = .int .i64 (i : Int) ∧ Hid (∀ j, q ≤ j → j < i → zeroG l j = true) ∧ Hid (wr.ownsRow w.heap.size TC 66 (.slice A9 q c9) q ((celG l q).map celL).flatten) ∧ Hid (Below w.heap.size w wr)) (fun iv _ => 16 * hh - (intOf iv).toNat)
      case atStart => exact ⟨q, Nat.le_refl _, by omega, rfl, Lib.hid (fun j h h2 => absurd h (by omega)), HO, HB⟩
      case round =>
        clear HO HB
        obtain ⟨i, hqi, hih, rfl, HZs, HO, HB⟩ := hrel
        have hi0 : (0 : Int) ≤ (i : Int) := by omega
        have lbh := HB.out.size
        by_cases hin : i < 16 * hh
        · have d1 : decide ((i : Int) < (hh : Int) * 16) = true := by simp; omega
          obtain ⟨a, b, hb16, hab⟩ : ∃ a b : Nat, b < 16 ∧ i = 16 * a + b := ⟨i / 16, i % 16, Nat.mod_lt _ (by decide), by omega⟩
          have e45 : (i : Int).tdiv 16 = (a : Int) := by rw [Int.tdiv_eq_ediv_of_nonneg (by omega)]; omega
          have e48 : (i : Int).tmod 16 = (b : Int) := by rw [Int.tmod_eq_emod_of_nonneg (by omega)]; omega
          have hal : a < l.length := by have := HLL.out; omega
          have ha1 : (0 : Int) ≤ (a : Int) := by omega
          have ha2 : (a : Int) < (l.length : Int) := by omega
          have hp : p4 l i = (l[a].drop (b * 4)).take 4 := by
            have h1 : i / 16 = a := by omega
            have h2 : i % 16 = b := by omega
            rw [p4, h1, h2, List.getD_eq_getElem?_getD, List.getElem?_eq_getElem hal]; rfl
          obtain ⟨g, o, rfl, hg, HR, hb⟩ := (HL.out.below HB.out).at_ a hal
          have hpr := rng_part (k := b * 4) (n := 4) HR
          have hpl : (p4 l i).length = 4 := by rw [hp, List.length_take, List.length_drop]; omega
          rw [← hp] at hpr
          obtain ⟨z, hz⟩ : ∃ z : Bool, (!decide (p4 l i = Z 4)) = z := ⟨_, rfl⟩
          have HPR := Lib.hid hpr
          have HPL := Lib.hid hpl
          have HZ := Lib.hid hz
          clear hpr hpl hz hp HR hb hab
          cases z with
          | true =>
            have hE := Lib.hid (show errG l (q : Int) = 5 by
              rw [HE.out, if_neg]
              intro h
              have h2 := (Bool.and_eq_true_iff.1 h).2
              have h3 := List.all_eq_true.1 h2 i (List.mem_range.2 (by rw [← HH.out]; exact hin))
              have h4 : decide (i < q) = false := by simp; omega
              have h5 := HZ.out
              rw [h4, Bool.false_or, zeroG] at h3
              rw [h3] at h5
              exact absurd h5 (by decide))
            go_wp2_with (first
              | (go_skip)
              | (refine blkFrom (.tmp 64) (.tmp 67) rfl rfl _ rfl (k := b * 4) (by omega) (by omega) rfl ?_)
              | (refine arr4At (.tmp 69) rfl rfl rfl ?_)
              | (refine arr4Mid (.tmp 70) rfl HPL.out HPR.out rfl rfl ?_)
              | (refine arr4Zero rfl rfl ?_)
              | (refine arr4Neq (.tmp 71) (.tmp 72) _ rfl rfl rfl HPL.out (Z_length 4) true HZ.out rfl ?_))
            go_ret2
            exact ⟨.inl ⟨by rw [hE.out]; decide, by rw [hE.out]; rfl⟩, HB.out⟩
          | false =>
            go_wp2_with (first
              | (go_skip)
              | (refine blkFrom (.tmp 64) (.tmp 67) rfl rfl _ rfl (k := b * 4) (by omega) (by omega) rfl ?_)
              | (refine arr4At (.tmp 69) rfl rfl rfl ?_)
              | (refine arr4Mid (.tmp 70) rfl HPL.out HPR.out rfl rfl ?_)
              | (refine arr4Zero rfl rfl ?_)
              | (refine arr4Neq (.tmp 71) (.tmp 72) _ rfl rfl rfl HPL.out (Z_length 4) false HZ.out rfl ?_))
            go_roundw
            case rel =>
              have HZ2 : Hid (∀ j, q ≤ j → j < i + 1 → zeroG l j = true) := Lib.hid fun j h h2 => by
                rcases Nat.lt_or_ge j i with h3 | h3
                · exact HZs.out j h h3
                · obtain rfl : j = i := by omega
                  have h5 := HZ.out
                  rw [zeroG]
                  simpa using h5
              first
                | exact ⟨i + 1, by omega, by omega, by go_num, HZ2, HO, HB⟩
                | exact ⟨i + 1, by omega, by omega, by go_num, HZ2⟩
            case measure => simp [intOf]; omega
        · have d1 : decide ((i : Int) < (hh : Int) * 16) = false := by simp; omega
          have hok : okG l q = true := by
            rw [okG, Bool.and_eq_true_iff]
            refine ⟨List.all_eq_true.2 fun j hj => HA.out j (List.mem_range.1 hj), List.all_eq_true.2 fun j hj => ?_⟩
            have hj2 := List.mem_range.1 hj
            rw [← HH.out] at hj2
            rcases Nat.lt_or_ge j q with h3 | h3
            · simp [h3]
            · rw [HZs.out j h3 (by omega), Bool.or_true]
          have hE := Lib.hid (show errG l (q : Int) = 0 by rw [HE.out, if_pos hok])
          have H64 := Lib.hid (celG_len (n := q) HL.out.1 (by have := HLL.out; rw [← HH.out]; omega))
          clear hok
          go_wp2
          go_ret2
          exact ⟨.inr ⟨hE.out, A9, c9, by rw [Int.toNat_natCast, celG_length]; rfl, by rw [Int.toNat_natCast]; exact ⟨H64.out, by rw [celG_length]; exact HO.out⟩⟩, HB.out⟩
end Go.Proofs.Ytdchcggllcgokaa.Y

namespace Go.Proofs.Ytdchcggllcgokaa.Y
open Go.RowKit Go.Proofs.Ytdchcggllcgokaa.L Go.Proofs.Ytdchcggllcgokaa.U Go.Proofs.Ytdchcggllcgokaa.R Go.Proofs.Ytdchcggllcgokaa.E Go.Proofs.YtdchcggllcgokaaW.PrintWords
set_option linter.unusedVariables false
set_option linter.unusedSimpArgs false
theorem wp_callFn {op : Oper} {a : Act} {w : World} {K : Act → World → Prop} {Q : Exit → Act → World → Prop} (f : Nat) (hcf : ∀ (args : Array Value) (w : World), (callFunc f args).run Try.prog w = .ok (.enter f args) w) (x : Operand) (ts : Array TypeId) (ho : op.op = .call { callee := .value (.func f), args := #[x], argTypes := ts }) (v : Value) (hv : a.eval x = v) (d : Option Tmp) (hd : op.dst = d) {R : Ending → World → Prop} (hc : Calls Try.prog f #[v] w R)
    (h : ∀ e w', R e w' → ∃ r, e = .returned r ∧ K (a.put d r) w') : Oper.wp Try.prog op a w K Q := by
  subst hd
  have ef : a.eval (.func f) = .func (.func f) #[] #[] := rfl
  have hx : (execOp a.eval op).run Try.prog w = .ok (.enter f #[v]) w := by
    unfold execOp
    simp [ho, resolve, Deferred.ofValue, invoke, ef, hv, hcf]
  unfold Oper.wp
  rw [hx, Oper.upon_enter]
  refine hc.mono fun e w' he => ?_
  obtain ⟨r, rfl, hk⟩ := h e w' he
  exact hk
theorem run_pickF {op : Oper} {a : Act} (c x : Operand) (v : Value) (ho : op.op = .pick c x (.const v)) (hc : a.eval c = .bool false) (w : World) : (execOp a.eval op).run Try.prog w = .ok (.value v) w := by
  have ev : a.eval (.const v) = v := rfl
  unfold execOp
  simp [ho, hc, ev]
  rfl
theorem wp_rowStore {op : Oper} {a : Act} {w : World} {K : Act → World → Prop} {Q : Exit → Act → World → Prop} (ty : TypeId) (x y : Operand) (ho : op.op = .store ty x y) {g : Nat} {t : TypeId} {cs old : Array Value} (hk : Row t w g old) (hx : a.eval x = .pointer (some ⟨g, 0, none⟩)) (hy : a.eval y = .agg cs)
    (hi : (Try.prog.info? ty).map (·.size) = some cs.size) (hs : old.size = cs.size) (h1 : cs.all (·.oneCell') = true) (d : Option Tmp) (hd : op.dst = d)
    (h : ∀ w1, Row t w1 g cs → w.grownBy w1 (some g) → K (a.put d undef) w1) : Oper.wp Try.prog op a w K Q := by
  subst hd
  unfold Oper.wp execOp
  simp only [ho, hx, hy, Instr.storeAt, Instr.sureAddr, Sem.run_bind, Sem.run_pure, Result.andThen_ok, run_storeVar_row w g t ty old cs hk hi hs h1]
  exact h _ (setRow_heap w g old cs t _ hk) (grown_setRow w g cs)
set_option maxRecDepth 100000 in
set_option maxHeartbeats 4000000 in
theorem read_F (A : Option Addr) (cap : Nat) (l : List (List Int)) (i a b : Nat) (hb16 : b < 16) (hi : i < 9223372036854775807) (hab : Hid (i = 16 * a + b)) (hal : a < l.length) (bk : List Int) (hbk : Hid (bk.length = 64)) (v m : Nat) (hv : v < 65536) (hm : m < 256)
    (PG : Hid (∀ (A : Option Addr) (c : Nat) (w : World), 4 ≤ c → c ≤ 9223372036854775807 → ReadsInt w .u8 A 4 ((bk.drop (b * 4)).take 4) → Calls Try.prog 44 #[.slice A 4 c, .int .i64 0, .int .i64 2] w fun e w' => e = .returned (.tuple #[.int .u64 (v : Int), .int .i64 0]) ∧ Below w.heap.size w w'))
    (PM : Hid (∀ w : World, Calls Try.prog 117 #[.agg #[.int .i64 (v : Int), .int .i64 (m : Int)]] w fun e w' => e = .returned (.bool false) ∧ Below w.heap.size w w'))
    (h2 : Hid (rd bk ((b * 4 + 2 : Nat) : Int) = (m : Int))) (hcap : l.length ≤ 9223372036854775807)
    (g o : Nat) (hA : A = some ⟨g, o, none⟩) (w : World) (hg : g < w.heap.size) (HR : Hid (w.rangeAt g (o + a * 64) (nums .u8 bk))) :
    Calls Try.prog 122 #[.slice A l.length cap, .int .i64 (i : Int)] w fun e w' => e = .returned (.tuple #[.agg (plL (v : Int) (m : Int)).toArray, .bool false]) ∧ Below w.heap.size w w' := by
  subst hA
  have HB := Lib.hid (Below.refl w.heap.size w)
  have e45 : (i : Int).tdiv 16 = (a : Int) := by rw [Int.tdiv_eq_ediv_of_nonneg (by omega)]; have := hab.out; omega
  have e48 : (i : Int).tmod 16 = (b : Int) := by rw [Int.tmod_eq_emod_of_nonneg (by omega)]; have := hab.out; omega
  have tok0 : True := trivial
  have HG := Lib.hid hg
  go_enter Try.func122, Try.ntmps122
  go_wp2_with (first
    | (go_skip)
    | (have _t := tok0; refine F.rowAlloc 125 rfl _ zero_pl rfl ?_; intro w1 hk hb hz1; replace HB := Lib.hid (below_ext HB.out hb); have K4 := Lib.hid hk; have hz1b := hb.size; clear hk hb; have tok1 : True := trivial; clear _t tok0)
    | (refine blkFrom (.tmp 13) (.tmp 16) rfl rfl _ rfl (k := b * 4) (by omega) (by omega) rfl ?_)
    | (go_at_call 44; refine (PG.out _ _ _ (by omega) (by omega) (rng_sub (fun j u hu => by rw [HB.out.cell (p := ⟨g, o + a * 64 + j, none⟩) HG.out]; exact HR.out j u hu) (by rw [hbk.out]; omega) (by rw [hbk.out]; decide))).mono ?_; rintro e w2 ⟨rfl, hb⟩; replace K4 := Lib.hid (K4.out.below hb); replace HB := Lib.hid (below_ext HB.out hb); have hz2 := hb.size; clear hb)
    | (refine F.rowCell (v := .int .u8 (m : Int)) _ (.tmp 27) rfl (by have h := rng_cell (k := b * 4 + 2) HR.out (by rw [hbk.out]; omega); rw [h2.out] at h; rw [HB.out.cell HG.out]; exact h) rfl R.agg_u8 rfl ?_)
    | (refine plcBuild (.tmp 25) (.tmp 29) rfl (s := (v : Int)) (m := (m : Int)) rfl rfl rfl ?_)
    | (have _t := tok1; refine F.rowAlloc 125 rfl _ zero_pl rfl ?_; intro w3 hk hb hz3; replace K4 := Lib.hid (K4.out.below hb); replace HB := Lib.hid (below_ext HB.out hb); have K9 := Lib.hid hk; clear hk hb; have tok2 : True := trivial; clear _t tok1)
    | (refine F.rowStore (cs := (plL (v : Int) (m : Int)).toArray) 125 (.tmp 9) (.tmp 30) rfl K9.out rfl rfl (info_pl _ _) rfl (one_pl _ _) rfl ?_; intro w4 hk hg2; replace K4 := Lib.hid (K4.out.grown hg2 (by omega)); replace HB := Lib.hid (below_at HB.out hg2 (by omega) K9.out.lt); replace K9 := Lib.hid hk; have hz4 := hg2.size; clear hk hg2))
  have hne : w2.heap.size ≠ w.heap.size := by omega
  clear hz1 hz1b hz2 hz3 hz4 h2 PG e45 e48
  refine wp_region_held_drew (S := fun w' => Row 125 w' w2.heap.size (plL (v : Int) (m : Int)).toArray) (by kernel_rfl) (show Row 125 w4.drew w2.heap.size (plL (v : Int) (m : Int)).toArray from K9.out) (fun hHeld => ?_)
  refine hTake 0 (.agg (plL (v : Int) (m : Int)).toArray) rfl (some 31) rfl (by kernel_rfl) (by kernel_rfl) (by kernel_rfl) (fun _ _ _ h => h) rfl (fun w' h => run_plcMid (.tmp 9) rfl (row_range h) rfl) hHeld ?_
  simp only [Act.put, List.setIfInBounds_toArray, List.set_cons_zero, List.set_cons_succ]
  refine hTake 1 (.agg (plL (v : Int) (m : Int)).toArray) rfl (some 32) rfl (by kernel_rfl) (by kernel_rfl) (by kernel_rfl) (fun _ _ _ h => h) rfl (fun w' h => run_plcMid (.tmp 9) rfl (row_range h) rfl) hHeld ?_
  simp only [Act.put, List.setIfInBounds_toArray, List.set_cons_zero, List.set_cons_succ]
  refine hOnly 2 rfl (by kernel_rfl) (fun K hK => ?_)
  rw [if_pos (by rfl)]
  refine wp_callFn 117 Try.call117 (.tmp 32) _ rfl (.agg (plL (v : Int) (m : Int)).toArray) rfl (some 33) rfl (PM.out _) ?_
  rintro e w5 ⟨rfl, hb5⟩
  refine ⟨_, rfl, ?_⟩
  have K9b := K9.out.below (below_ext (below_drewN (Below.refl w4.heap.size w4) 1) hb5)
  have K4b := K4.out.below (below_ext (below_drewN (Below.refl w4.heap.size w4) 1) hb5)
  have HB5 := Lib.hid (below_ext (below_drewN HB.out 1) hb5)
  refine hK.out _ _ K9b (fun hHeld => ?_)
  clear hK K
  simp only [Act.put, List.setIfInBounds_toArray, List.set_cons_zero, List.set_cons_succ]
  refine hTake 3 (.bool false) rfl (some 34) rfl (by kernel_rfl) (by kernel_rfl) (by kernel_rfl) (fun _ _ _ h => h) rfl (fun _ _ => rfl) hHeld ?_
  simp only [Act.put, List.setIfInBounds_toArray, List.set_cons_zero, List.set_cons_succ]
  refine hSkip 4 rfl (some 35) rfl (by kernel_rfl) (by kernel_rfl) (by kernel_rfl) (fun _ _ _ h => h) (by rfl) hHeld ?_
  simp only [Act.put, List.setIfInBounds_toArray, List.set_cons_zero, List.set_cons_succ]
  refine hSkip 5 rfl (some 36) rfl (by kernel_rfl) (by kernel_rfl) (by kernel_rfl) (fun _ _ _ h => h) (by rfl) hHeld ?_
  simp only [Act.put, List.setIfInBounds_toArray, List.set_cons_zero, List.set_cons_succ]
  refine hSkip 6 rfl (some 37) rfl (by kernel_rfl) (by kernel_rfl) (by kernel_rfl) (fun _ _ _ h => h) (by rfl) hHeld ?_
  simp only [Act.put, List.setIfInBounds_toArray, List.set_cons_zero, List.set_cons_succ]
  refine hSkip 7 rfl (some 38) rfl (by kernel_rfl) (by kernel_rfl) (by kernel_rfl) (fun _ _ _ h => h) (by rfl) hHeld ?_
  simp only [Act.put, List.setIfInBounds_toArray, List.set_cons_zero, List.set_cons_succ]
  refine hTake 8 (.bool false) rfl (some 39) rfl (by kernel_rfl) (by kernel_rfl) (by kernel_rfl) (fun _ _ _ h => h) rfl (fun w' _ => run_pickF (.tmp 34) (.tmp 38) _ rfl rfl w') hHeld ?_
  simp only [Act.put, List.setIfInBounds_toArray, List.set_cons_zero, List.set_cons_succ]
  refine hOnly 9 rfl (by kernel_rfl) (fun K hK => ?_)
  rw [if_pos (by rfl)]
  refine wp_rowStore 125 (.tmp 4) (.tmp 31) rfl K4b rfl rfl (info_pl _ _) rfl (one_pl _ _) none rfl ?_
  intro w6 KF hg6
  have HF := below_at HB5.out hg6 (Nat.le_refl _) K4b.lt
  refine hK.out _ _ (K9b.grown hg6 (by omega)) (fun hHeld => ?_)
  clear hK K
  simp only [Act.put, List.setIfInBounds_toArray, List.set_cons_zero, List.set_cons_succ]
  refine hTake 10 (.bool false) rfl (some 5) rfl (by kernel_rfl) (by kernel_rfl) (by kernel_rfl) (fun _ _ _ h => h) rfl (fun _ _ => rfl) hHeld ?_
  simp only [Act.put, List.setIfInBounds_toArray, List.set_cons_zero, List.set_cons_succ]
  refine wpAnyH_done (by kernel_rfl) ?_ _
  go_wp2
  exact bodyPost_ret (v := .tuple #[.agg (plL (v : Int) (m : Int)).toArray, .bool false]) (ret_place rfl _ _ (plL_length _ _) (row_range KF) rfl rfl) rfl ⟨rfl, HF⟩
/-- read, whatever stands there -/
theorem read_any (A : Option Addr) (cap : Nat) {l : List (List Int)} (hw8 : ∀ b ∈ l, Wf8 b) {i : Nat} (hi : i < 512) (hal : i / 16 < l.length) : ReadR A cap l i := by
  cases hm : mayP (vG l i : Int) (mG l i : Int) with
  | true => exact read_may A cap hw8 hi hal hm
  | false =>
    intro w HL
    obtain ⟨g, o, hA, hg, hr, hb⟩ := HL.at_ (i / 16) hal
    have e : l.getD (i / 16) [] = l[i / 16] := by rw [List.getD_eq_getElem?_getD, List.getElem?_eq_getElem hal]; rfl
    obtain ⟨bk, hbk⟩ : ∃ bk, bk = l[i / 16] := ⟨_, rfl⟩
    have h8 := hw8 _ (List.getElem_mem hal)
    rw [← hbk] at hr hb e h8
    have hlt : i % 16 < 16 := Nat.mod_lt _ (by decide)
    have b0 := rdB_byte hw8 i 0
    have b1 := rdB_byte hw8 i 1
    have b2 := rdB_byte hw8 i 2
    have sub8 : Wf8 ((bk.drop (i % 16 * 4)).take 4) := fun x hx => h8 x (List.mem_of_mem_drop (List.mem_of_mem_take hx))
    have subl : ((bk.drop (i % 16 * 4)).take 4).length = 4 := by rw [List.length_take, List.length_drop]; omega
    have r0 : rd ((bk.drop (i % 16 * 4)).take 4) 0 = rdB l i 0 := by rw [rdB, e]; exact rd_sub (j := 0) (by decide) (by omega)
    have r1 : rd ((bk.drop (i % 16 * 4)).take 4) 1 = rdB l i 1 := by rw [rdB, e]; exact rd_sub (j := 1) (by decide) (by omega)
    have hcap := HL.cap
    have h := read_F A cap l i (i / 16) (i % 16) hlt (by omega) (Lib.hid (by omega)) hal bk (Lib.hid hb) (vG l i) (mG l i) (by rw [vG]; omega) (by rw [mG]; omega)
      (Lib.hid fun A' c w' h4 hc hrd => by
        have h2 := get2 sub8 subl A' c w' h4 hc hrd
        rw [r0, r1] at h2
        exact h2)
      (Lib.hid fun w' => by
        have h2 := may_any (vG l i : Int) (mG l i : Int) w'
        rw [hm] at h2
        exact h2)
      (Lib.hid (by rw [mG, rdB, e]; rw [rdB, e] at b2; omega)) hcap g o hA w hg (Lib.hid hr)
    refine h.mono ?_
    rintro e2 w2 ⟨rfl, hb2⟩
    exact ⟨by rw [okC, hm, Bool.false_and], hb2⟩
theorem Get_any (A : Option Addr) (cap : Nat) (l : List (List Int)) (hw8 : ∀ b ∈ l, Wf8 b) (ni : Int) (hni : -9223372036854775808 ≤ ni ∧ ni ≤ 9223372036854775807) (w : World) (HL : Bks w A l) : Calls Try.prog 54 #[.slice A l.length cap, .int .i64 ni] w fun e w' => GetR l ni w.heap.size e w' ∧ Below w.heap.size w w' := by
  exact Get_walk A cap l ni hni (Lib.hid fun i hi hal => read_any A cap hw8 (by omega) hal) w (Lib.hid HL)
end Go.Proofs.Ytdchcggllcgokaa.Y
