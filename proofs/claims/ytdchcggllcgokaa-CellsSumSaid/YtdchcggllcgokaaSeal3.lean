/-
  slices.Clone at bytes; seal.Get: the walks.
-/
import Derived.Test.YtdchcggllcgokaaSeal2
import Derived.WalkSpells
namespace Go.Proofs.Ytdchcggllcgokaa.E
open Go.RowKit Go.Proofs.Ytdchcggllcgokaa.L Go.Proofs.Ytdchcggllcgokaa.U Go.Proofs.Ytdchcggllcgokaa.R Go.Proofs.YtdchcggllcgokaaW.PrintWords
set_option linter.unusedVariables false
set_option linter.unusedSimpArgs false

theorem zeroCells_one (v : Value) (k : Nat) : Builtin.zeroCells #[v] k = (List.replicate k v).toArray := by
  apply Array.ext
  · simp [Builtin.zeroCells]
  · intro i h1 h2
    simp [Builtin.zeroCells, Nat.mod_one]
section
variable {P : Program} {ops : Array Oper} {rest : List Oper} {op : Oper} {a : Act} {W : World} {Q : Exit → Act → World → Prop}
/-- bytes behind an empty slice of no room: a new row, its room all bytes -/
theorem appendFresh (hgd : op.guard = none) (s x : Operand) (t : TypeId) (ho : op.op = .call { callee := .builtin .append, args := #[s, x], argTypes := #[t, t] })
    (ht : P.underlying t = some (.slice 5)) (hinfo : (P.info? 5).map (fun i => (i.zero, i.size, i.bytes)) = some (some (.int .u8 0), 1, 1))
    (g : Nat) (hs : a.eval s = .slice (some ⟨g, 0, none⟩) 0 0) {A : Option Addr} {m c : Nat} {ys : List Int} (hr : ReadsInt W .u8 A m ys) (hx : a.eval x = .slice A m c) (hw : Wf8 ys) (hp : 0 < m) (hm : m ≤ 140737488355328)
    (h : ∀ A1 c1 w1, Byts W.heap.size w1 A1 c1 ys → Room W.heap.size w1 A1 c1 → Below W.heap.size W w1 → wpList P ops Q rest (a.put op.dst (.slice A1 m c1)) w1) : wpList P ops Q (op :: rest) a W := by
  obtain ⟨i0, hi, hzz⟩ := Option.map_eq_some_iff.1 hinfo
  simp only [Prod.mk.injEq] at hzz
  obtain ⟨hz0, hz1, hz2⟩ := hzz
  obtain ⟨ad, rfl, hc⟩ := hr.2.2 hp
  have hl : ys.length = m := hr.1
  have hnews : ∀ j v, (nums .u8 ys)[j]? = some v → W.cell? (ad.add j) = some v := fun j v hv => by
    have hj : j < (nums .u8 ys).length := (List.getElem?_eq_some_iff.1 hv).1
    rw [nums_length] at hj
    rw [hc j (by omega)]
    simp only [nums, List.getElem?_map] at hv
    rw [List.getElem?_eq_getElem (by omega)] at hv
    rw [List.getD_eq_getElem?_getD, List.getElem?_eq_getElem (by omega)]
    simpa using hv
  have hrun := run_append_grow (P := P) W t op.type 5 i0 (.int .u8 0) ht hi hz0 ⟨g, 0, none⟩ 0 0 [] (by simp) (fun j v hv => by simp at hv) ad m c (nums .u8 ys) (by rw [nums_length, hz1]; omega) hnews (by omega) (by omega) (growslice_fits (by omega) (by rw [hz2]; omega))
  have hge := grownCap_ge W (0 + m) 0 5
  have hle := grownCap_le_maxLen W (0 + m) 0 5 (by simp only [maxLen]; omega)
  obtain ⟨C, hC⟩ : ∃ C, C = grownCap W (0 + m) 0 5 := ⟨_, rfl⟩
  rw [← hC] at hrun hge hle
  have hcells : (([] : List Value).toArray ++ (nums .u8 ys).toArray ++ Builtin.zeroCells (Value.cells (.int .u8 0)) (C - (0 + m))) = (nums .u8 (ys ++ List.replicate (C - m) 0)).toArray := by
    show (([] : List Value).toArray ++ (nums .u8 ys).toArray ++ Builtin.zeroCells #[.int .u8 0] (C - (0 + m))) = _
    rw [zeroCells_one]
    simp [nums]
  rw [hcells] at hrun
  have hlen : (ys ++ List.replicate (C - m) 0).length = C := by rw [List.length_append, List.length_replicate]; omega
  have hb : (W.drew.alloc (.cells (nums .u8 (ys ++ List.replicate (C - m) 0)).toArray 5)).heap[W.heap.size]? = some (.cells (nums .u8 (ys ++ List.replicate (C - m) 0)).toArray 5 (0, 0)) := heap_alloc_new W.drew _
  have h1 : Byts W.heap.size (W.drew.alloc (.cells (nums .u8 (ys ++ List.replicate (C - m) 0)).toArray 5)) (some ⟨W.heap.size, 0, none⟩) C ys := by
    refine ⟨by rw [nums_length]; omega, .inr ⟨W.heap.size, C, _, rfl, Nat.le_refl _, hb, by omega, hle, by simp only [List.size_toArray, nums_length, hlen]; omega, ?_⟩⟩
    show (nums .u8 (ys ++ List.replicate (C - m) 0)).take (ys.length * 1) = _
    rw [Nat.mul_one, nums_append]
    have h9 := List.take_left (l₁ := nums .u8 ys) (l₂ := nums .u8 (List.replicate (C - m) 0))
    rwa [nums_length] at h9
  have h2 : Room W.heap.size (W.drew.alloc (.cells (nums .u8 (ys ++ List.replicate (C - m) 0)).toArray 5)) (some ⟨W.heap.size, 0, none⟩) C := by
    refine ⟨_, wf_append hw (zeros_wf _), hlen, by rw [nums_length]; omega, .inr ⟨W.heap.size, C, _, rfl, Nat.le_refl _, hb, Nat.le_refl _, hle, by simp only [List.size_toArray, nums_length, hlen]; omega, ?_⟩⟩
    show (nums .u8 (ys ++ List.replicate (C - m) 0)).take (C * 1) = _
    rw [Nat.mul_one, List.take_of_length_le (by rw [nums_length]; omega)]
  have h3 : Below W.heap.size W (W.drew.alloc (.cells (nums .u8 (ys ++ List.replicate (C - m) 0)).toArray 5)) := below_alloc (below_drewN (Below.refl _ _) 1) _
  refine wpList_plain hgd fun K hK => ?_
  unfold Oper.wp execOp
  simp only [ho, resolve, invoke, builtin, Sem.run_bind, Sem.run_pure, Result.andThen_ok, List.map_toArray, List.map_cons, List.map_nil, hs, hx, hrun]
  have h4 := h _ _ _ h1 h2 h3
  rw [show 0 + m = m by omega]
  exact hK _ _ h4
end
set_option maxRecDepth 100000 in
theorem Clone_any (ad : Addr) (cap : Nat) (ys : List Int) (hw : Wf8 ys) (hp : 0 < ys.length) (hm : ys.length ≤ 140737488355328) (w : World) (hr : ReadsInt w .u8 (some ad) ys.length ys) :
    Calls Try.prog 125 #[.slice (some ad) ys.length cap] w fun e w' => (∃ A c, e = .returned (.slice A ys.length c) ∧ Byts w.heap.size w' A c ys ∧ Room w.heap.size w' A c) ∧ Below w.heap.size w w' := by
  have HR := Lib.hid hr
  have HP := Lib.hid hp
  have HM := Lib.hid hm
  have q1 := fun (w : World) => Lib.run_eql_slice_nil (P := Try.prog) w 22 5 (some ad) ys.length cap 0 0 Try.underlying22
  clear hr hp
  go_enter Try.func125, Try.ntmps125
  go_wp2_with (first
    | (at_builtin; refine appendFresh rfl (.tmp 5) (.tmp 6) 22 rfl Try.underlying22 info_u8 w.heap.size rfl (HR.out.below (below_alloc (Below.refl _ _) _)) rfl hw HP.out HM.out ?_; intro A1 c1 w1 o1 r1 hb1; have O1 := Lib.hid o1; have R1 := Lib.hid r1; have B1 := Lib.hid hb1; clear o1 r1 hb1))
  go_ret
  exact ⟨⟨A1, c1, rfl, own_lower O1.out (by simp), by
    obtain ⟨zs, h1, h2, h3⟩ := R1.out
    exact ⟨zs, h1, h2, own_lower h3 (by simp)⟩⟩, below_1 B1.out⟩
end Go.Proofs.Ytdchcggllcgokaa.E
