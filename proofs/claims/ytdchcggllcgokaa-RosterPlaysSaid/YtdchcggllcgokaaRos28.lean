/-
  ashlarlaw10.RosterPlays: the walk.
-/
import Derived.Test.YtdchcggllcgokaaRos27
import Derived.StillTail
import Derived.StillTactics
namespace Go.Proofs.Ytdchcggllcgokaa.Q
open Go.RowKit Go.Proofs.Ytdchcggllcgokaa.L Go.Proofs.Ytdchcggllcgokaa.R Go.Proofs.YtdchcggllcgokaaW.PrintWords
set_option linter.unusedVariables false
set_option linter.unusedSimpArgs false
/-- a slice of acts that reads -/
def ActsAt (W : World) (A : Option Addr) (l : List (Int × Int × Bool)) : Prop := l.length ≤ 9223372036854775807 ∧ (0 < l.length → ∃ b o, A = some ⟨b, o, none⟩ ∧ b < W.heap.size ∧ ∀ (j : Nat) p, l[j]? = some p → W.rangeAt b (o + j * 3) [.int .i64 p.1, .int .i64 p.2.1, .bool p.2.2])
theorem ActsAt.below {W W1 : World} {A : Option Addr} {l : List (Int × Int × Bool)} (h : ActsAt W A l) (hb : Below W.heap.size W W1) : ActsAt W1 A l :=
  ⟨h.1, fun h0 => by
    obtain ⟨b, o, e, hlt, hr⟩ := h.2 h0
    refine ⟨b, o, e, Nat.lt_of_lt_of_le hlt hb.size, fun j p hp i v hv => ?_⟩
    rw [hb.cell (p := ⟨b, o + j * 3 + i, none⟩) hlt]
    exact hr j p hp i v hv⟩
section
variable {P : Program} {ops : Array Oper} {w : World} {Q : Act → Prop} {a : Act} {op : Oper} {rest : List Oper}
theorem still_val {v : Value} (hr : (execOp a.eval op).run P w = .ok (.value v) w) (hw : Region.wanted op (yielded ops a.tmps) = true) (h : wpStill P ops w Q rest (a.put op.dst v)) : wpStill P ops w Q (op :: rest) a := by
  refine wpStill_step fun K hK => ?_
  rw [if_pos hw]
  unfold Oper.still
  rw [hr, Oper.stillUpon_value]
  exact hK _ h
end
section
variable {ops : Array Oper} {w : World} {Q : Act → Prop} {a : Act} {op : Oper} {rest : List Oper}
theorem sRosLoad (x : Operand) (ho : op.op = .load 72 x) {g : Nat} {y : Ro} (hk : Ros w g y) (hx : a.eval x = .pointer (some ⟨g, 0, none⟩)) (hw : Region.wanted op (yielded ops a.tmps) = true)
    (h : wpStill Try.prog ops w Q rest (a.put op.dst (ros y))) : wpStill Try.prog ops w Q (op :: rest) a :=
  still_val (by
    unfold execOp
    simp only [ho, hx, Instr.loadAt, Instr.sureAddr, Sem.run_bind, Sem.run_map, Sem.run_pure, Result.andThen_ok, run_loadVar_row w g _ 72 _ (0, 0) _ hk.2 Try.underlying72 rfl (info_of_ros hk.1)]
    rfl) hw h
theorem sActLoad (x : Operand) (ho : op.op = .load 106 x) {b o : Nat} {d k : Int} {g : Bool} (hr : w.rangeAt b o [.int .i64 d, .int .i64 k, .bool g]) (hx : a.eval x = .pointer (some ⟨b, o, none⟩)) (hw : Region.wanted op (yielded ops a.tmps) = true)
    (h : wpStill Try.prog ops w Q rest (a.put op.dst (act d k g))) : wpStill Try.prog ops w Q (op :: rest) a :=
  still_val (by
    unfold execOp
    simp only [ho, hx, Instr.loadAt, Instr.sureAddr, Sem.run_bind, Sem.run_map, Sem.run_pure, Result.andThen_ok, run_loadVar_mid w b o 106 _ _ hr Try.underlying106 rfl info_act]
    rfl) hw h
end
theorem cnt_tail {l : List Int} {j : Nat} : ∀ q : Nat, j ≤ q → (∀ i : Nat, i < q → j ≤ i → rd l (i : Int) = 0) → cnt l 0 q = cnt l 0 j + (q - j) ∧ cnt l 2 q = cnt l 2 j
  | 0, hq, _ => by obtain rfl : j = 0 := by omega
                   exact ⟨by simp, rfl⟩
  | q + 1, hq, h => by
    rcases Nat.lt_or_ge q j with h1 | h1
    · obtain rfl : j = q + 1 := by omega
      exact ⟨by simp, rfl⟩
    · obtain ⟨e1, e2⟩ := cnt_tail (l := l) q h1 fun i hi hj => h i (by omega) hj
      rw [cnt_succ, cnt_succ, h q (by omega) h1, if_pos rfl, if_neg (by decide)]
      exact ⟨by omega, by omega⟩
theorem may_tail {y : Ro} (h : mayR y = true) {j : Nat} (hj : (j : Int) = y.m) : missR y = j - cnt y.st 0 j ∧ cnt y.st 2 16 = cnt y.st 2 j := by
  have hm := may_m h
  obtain ⟨e1, e2⟩ := cnt_tail (l := y.st) (j := j) 16 (by omega) fun i hi hji => (((mayR_iff y).1 h).2.2.2.1 i hi).2 (by omega)
  have h1 := cnt_le y.st 0 j
  rw [missR_is h]
  exact ⟨by omega, e2⟩
end Go.Proofs.Ytdchcggllcgokaa.Q
