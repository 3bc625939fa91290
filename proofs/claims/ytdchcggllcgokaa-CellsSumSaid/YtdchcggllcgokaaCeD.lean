/-
  Records, plain: what is put is got; what is got is put as the same sectors. ashlarref11.Get: the walk. Put and Get of both packages in one form; WideBlocks, LeftBlocks. LeftBlocks; ashlarlaw11.lives. ashlarlaw11.lives. ashlarlaw11.lives; CellsPuts, CellsGets, CellsSame: true. Slices of blocks and of cells that came in, opened.
-/
import Derived.Test.YtdchcggllcgokaaCeB
import Derived.Test.YtdchcggllcgokaaCeC
import Derived.Test.YtdchcggllcgokaaSealM
import Derived.Test.YtdchcggllcgokaaCeA
import Derived.Deep.Slices
import Derived.OpenShut
import Derived.SizedLaws
import Derived.ChangeOld
namespace Go.Proofs.Ytdchcggllcgokaa.Y
open Go.RowKit Go.Proofs.Ytdchcggllcgokaa.L Go.Proofs.Ytdchcggllcgokaa.U Go.Proofs.Ytdchcggllcgokaa.R Go.Proofs.Ytdchcggllcgokaa.E Go.Proofs.YtdchcggllcgokaaW.PrintWords
set_option linter.unusedVariables false
set_option linter.unusedSimpArgs false
/-- a record's sectors -/
def secL (l : List Ce) : List (List Int) := (List.range (hdN l.length)).map (blkAt (rowP l)) ++ l.map (·.b)
theorem secL_length (l : List Ce) : (secL l).length = hdN l.length + l.length := by simp [secL]
theorem secL_64 {l : List Ce} (h : ∀ c ∈ l, c.b.length = 64) : ∀ b ∈ secL l, b.length = 64 := by
  intro b hb
  rcases List.mem_append.1 hb with h1 | h1
  · obtain ⟨j, _, rfl⟩ := List.mem_map.1 h1; exact blkAt_length _ _
  · obtain ⟨c, hc, rfl⟩ := List.mem_map.1 h1; exact h c hc
theorem secL_flat (l : List Ce) : (secL l).flatten = FLq l l.length := by
  rw [← rec_flat, secL, List.flatten_append]; rfl
theorem secL_head {l : List Ce} {j : Nat} (hj : j < hdN l.length) : (secL l).getD j [] = blkAt (rowP l) j := by
  rw [secL, List.getD_eq_getElem?_getD, List.getElem?_append_left (by simpa using hj)]
  simp [hj]
theorem secL_tail {l : List Ce} {i : Nat} (hi : i < l.length) : (secL l).getD (hdN l.length + i) [] = l[i].b := by
  rw [secL, List.getD_eq_getElem?_getD, List.getElem?_append_right (by simp)]
  simp [hi]
theorem rd_out {xs : List Int} {i : Nat} (h : xs.length ≤ i) : rd xs (i : Int) = 0 := by
  rw [rd, Int.toNat_natCast, List.getD_eq_getElem?_getD, List.getElem?_eq_none h]; rfl
theorem rd_in {xs : List Int} {i : Nat} (h : i < xs.length) : rd xs (i : Int) = xs[i] := by
  rw [rd, Int.toNat_natCast, List.getD_eq_getElem?_getD, List.getElem?_eq_getElem h]; rfl
theorem rd_blkAt (row : List Int) (j : Nat) {k : Nat} (hk : k < 64) : rd (blkAt row j) (k : Int) = rd row ((64 * j + k : Nat) : Int) := by
  rcases Nat.lt_or_ge (64 * j + k) row.length with h | h
  · rw [rd_in h, rd_in (by rw [blkAt_length]; exact hk)]
    simp only [blkAt]
    rw [List.getElem_append_left (by rw [List.length_take, List.length_drop]; omega), List.getElem_take, List.getElem_drop]
  · rw [rd_out h, rd_in (by rw [blkAt_length]; exact hk)]
    simp only [blkAt]
    rw [List.getElem_append_right (by rw [List.length_take, List.length_drop]; omega)]
    simp [Z]
theorem all4 (l : List Ce) : ∀ v ∈ l.map place4, v.length = 4 := fun v hv => by
  obtain ⟨c, _, rfl⟩ := List.mem_map.1 hv
  exact place4_length c
theorem rd_rowP {l : List Ce} {i r : Nat} (hi : i < l.length) (hr : r < 4) : rd (rowP l) ((4 * i + r : Nat) : Int) = rd (place4 l[i]) (r : Int) := by
  have h := flat_get 4 (l.map place4) (all4 l) i r (place4 l[i]) (by rw [List.getElem?_map, List.getElem?_eq_getElem hi]; rfl) hr
  rw [rd, rd, Int.toNat_natCast, Int.toNat_natCast, List.getD_eq_getElem?_getD, List.getD_eq_getElem?_getD, ← h, rowP, Nat.mul_comm]
theorem rd_rowP_out {l : List Ce} {i r : Nat} (hi : l.length ≤ i) : rd (rowP l) ((4 * i + r : Nat) : Int) = 0 := rd_out (by rw [rowP_length]; omega)
theorem place4_may {c : Ce} (h : mayP c.s c.m = true) : place4 c = [c.s, 0, c.m, 0] := by
  obtain ⟨a, b, e1, e2, h1, h2⟩ := mayP_nat h
  rw [place4, e1, Int.toNat_natCast, putb_small h1]
  rfl
theorem four {x : List Int} (h : x.length = 4) : x = [rd x 0, rd x 1, rd x 2, rd x 3] := by
  match x, h with
  | [a, b, c, d], _ => rfl
theorem p4_is {l : List (List Int)} {i : Nat} (h : (l.getD (i / 16) []).length = 64) : p4 l i = [rdB l i 0, rdB l i 1, rdB l i 2, rdB l i 3] := by
  have hlt : i % 16 < 16 := Nat.mod_lt _ (by decide)
  have hl : (p4 l i).length = 4 := by rw [p4, List.length_take, List.length_drop]; omega
  have hk : i % 16 * 4 + 4 ≤ (l.getD (i / 16) []).length := by omega
  rw [four hl]
  simp only [rdB, p4]
  rw [← rd_sub (j := 0) (by decide) hk, ← rd_sub (j := 1) (by decide) hk, ← rd_sub (j := 2) (by decide) hk, ← rd_sub (j := 3) (by decide) hk]
  rfl
theorem zeroG_iff {l : List (List Int)} {i : Nat} (h : (l.getD (i / 16) []).length = 64) : zeroG l i = true ↔ rdB l i 0 = 0 ∧ rdB l i 1 = 0 ∧ rdB l i 2 = 0 ∧ rdB l i 3 = 0 := by
  rw [zeroG, p4_is h, decide_eq_true_iff]
  simp [Z, List.replicate]
theorem rdB_sec {l : List Ce} {i r : Nat} (hi : i < 16 * hdN l.length) (hr : r < 4) : rdB (secL l) i r = rd (rowP l) ((4 * i + r : Nat) : Int) := by
  rw [rdB, secL_head (by omega), rd_blkAt _ _ (by omega), show 64 * (i / 16) + (i % 16 * 4 + r) = 4 * i + r by omega]
theorem sec_places {l : List Ce} (hm : mayL l = true) {i : Nat} (hi : i < l.length) : (vG (secL l) i : Int) = l[i].s ∧ (mG (secL l) i : Int) = l[i].m ∧ zG (secL l) i = 0 := by
  have h16 : i < 16 * hdN l.length := by rw [hdN]; omega
  have hp := mayL_at hm hi
  obtain ⟨a, b, e1, e2, h1, h2⟩ := mayP_nat hp
  have e : ∀ r, r < 4 → rdB (secL l) i r = rd [l[i].s, 0, l[i].m, 0] (r : Int) := fun r hr => by
    rw [rdB_sec h16 hr, rd_rowP hi hr, place4_may hp]
  have e0 : rdB (secL l) i 0 = l[i].s := e 0 (by decide)
  have e1' : rdB (secL l) i 1 = 0 := e 1 (by decide)
  have e2' : rdB (secL l) i 2 = l[i].m := e 2 (by decide)
  have e3' : rdB (secL l) i 3 = 0 := e 3 (by decide)
  rw [vG, mG, zG, e0, e1', e2', e3', e1, e2]
  simp
theorem sec_zero {l : List Ce} (hb : ∀ c ∈ l, c.b.length = 64) {i : Nat} (hi : l.length ≤ i) (h16 : i < 16 * hdN l.length) : zeroG (secL l) i = true := by
  have e : ∀ r, r < 4 → rdB (secL l) i r = 0 := fun r hr => by rw [rdB_sec h16 hr, rd_rowP_out hi]
  rw [zeroG_iff (by rw [secL_head (by omega), blkAt_length])]
  exact ⟨e 0 (by decide), e 1 (by decide), e 2 (by decide), e 3 (by decide)⟩
theorem errC_ok {l : List Ce} (h : errC l = 0) : 1 ≤ l.length ∧ l.length ≤ 32 ∧ mayL l = true := by
  rw [errC] at h
  by_cases h1 : l.length = 0 ∨ mayL l = false
  · rw [if_pos h1] at h; exact absurd h (by decide)
  · rw [if_neg h1] at h
    by_cases h2 : 32 < l.length
    · rw [if_pos h2] at h; exact absurd h (by decide)
    · refine ⟨by omega, by omega, ?_⟩
      cases hm : mayL l with
      | true => rfl
      | false => exact absurd (.inr hm) h1
theorem sizeN_nat {n : Nat} (h1 : 1 ≤ n) (h2 : n ≤ 32) : T.sizeN (n : Int) = hdN n + n := by
  rw [T.sizeN, if_pos ⟨by omega, by omega⟩, Int.toNat_natCast]; rfl
/-- what is put is got -/
theorem get_put {l : List Ce} (h : errC l = 0) (hb : ∀ c ∈ l, c.b.length = 64) : errG (secL l) (l.length : Int) = 0 ∧ celG (secL l) l.length = l := by
  obtain ⟨h1, h2, hm⟩ := errC_ok h
  have hs := sizeN_nat h1 h2
  have hl := secL_length l
  constructor
  · rw [errG, hs, if_neg (by omega), if_neg (by omega), if_neg (by omega), Int.toNat_natCast, if_pos]
    rw [okG, Bool.and_eq_true_iff]
    refine ⟨List.all_eq_true.2 fun i hi => ?_, List.all_eq_true.2 fun i hi => ?_⟩
    · have hi := List.mem_range.1 hi
      obtain ⟨e1, e2, e3⟩ := sec_places hm hi
      rw [okC, e1, e2, e3, mayL_at hm hi]; rfl
    · have hi := List.mem_range.1 hi
      rcases Nat.lt_or_ge i l.length with h3 | h3
      · simp [h3]
      · rw [sec_zero hb h3 hi, Bool.or_true]
  · refine List.ext_getElem (by rw [celG_length]) fun i hi1 hi2 => ?_
    obtain ⟨e1, e2, e3⟩ := sec_places hm hi2
    simp only [celG, List.getElem_map, List.getElem_range, ceG]
    rw [e1, e2, secL_tail hi2]
theorem errG_short {l : List (List Int)} {n : Nat} (h1 : 1 ≤ n) (h2 : n ≤ 32) (h : l.length < hdN n + n) : errG l (n : Int) = 4 := by
  rw [errG, sizeN_nat h1 h2, if_neg (by omega), if_pos h]
theorem errG_long {l : List (List Int)} {n : Nat} (h1 : 1 ≤ n) (h2 : n ≤ 32) (h : hdN n + n < l.length) : errG l (n : Int) = 5 := by
  rw [errG, sizeN_nat h1 h2, if_neg (by omega), if_neg (by omega), if_pos h]
theorem errG_ok {l : List (List Int)} {n : Int} (h : errG l n = 0) : ∃ k : Nat, n = k ∧ 1 ≤ k ∧ k ≤ 32 ∧ l.length = hdN k + k ∧ okG l k = true := by
  rw [errG] at h
  by_cases h0 : T.sizeN n = 0
  · rw [if_pos h0] at h; exact absurd h (by decide)
  rw [if_neg h0] at h
  by_cases h1 : l.length < T.sizeN n
  · rw [if_pos h1] at h; exact absurd h (by decide)
  rw [if_neg h1] at h
  by_cases h2 : T.sizeN n < l.length
  · rw [if_pos h2] at h; exact absurd h (by decide)
  rw [if_neg h2] at h
  by_cases h3 : okG l n.toNat = true
  · have hr : 1 ≤ n ∧ n ≤ 32 := by
      rw [T.sizeN] at h0
      by_cases hr : 1 ≤ n ∧ n ≤ 32
      · exact hr
      · rw [if_neg hr] at h0; exact absurd rfl h0
    refine ⟨n.toNat, by omega, by omega, by omega, ?_, h3⟩
    have h4 : T.sizeN ((n.toNat : Nat) : Int) = hdN n.toNat + n.toNat := sizeN_nat (by omega) (by omega)
    rw [show ((n.toNat : Nat) : Int) = n by omega] at h4
    omega
  · rw [if_neg h3] at h; exact absurd h (by decide)
/-- what is got is put as the same sectors -/
theorem put_get {L : List (List Int)} (h8 : ∀ b ∈ L, Wf8 b) (h64 : ∀ b ∈ L, b.length = 64) {k : Nat} (h1 : 1 ≤ k) (h2 : k ≤ 32) (hl : L.length = hdN k + k) (hok : okG L k = true) : errC (celG L k) = 0 ∧ secL (celG L k) = L := by
  have hlen := celG_length L k
  obtain ⟨ha, hz⟩ := Bool.and_eq_true_iff.1 hok
  have hC : ∀ i, i < k → mayP (vG L i : Int) (mG L i : Int) = true ∧ zG L i = 0 := fun i hi => by
    have h := List.all_eq_true.1 ha i (List.mem_range.2 hi)
    rw [okC, Bool.and_eq_true_iff] at h
    refine ⟨h.1, ?_⟩
    have h3 := h.2
    rw [beq_iff_eq] at h3
    omega
  have hge : ∀ i (hi : i < k), (celG L k)[i]'(by rw [hlen]; exact hi) = ceG L (hdN k) i := fun i hi => by simp [celG]
  have hm : mayL (celG L k) = true := mayL_of fun q hq => by
    rw [hlen] at hq
    rw [hge q hq]
    exact (hC q hq).1
  refine ⟨?_, ?_⟩
  · rw [errC, hlen, hm, if_neg (by rintro (h | h); omega; exact absurd h (by decide)), if_neg (by omega)]
  · have hd : ∀ j (hj : j < L.length), L.getD j [] = L[j] := fun j hj => by rw [List.getD_eq_getElem?_getD, List.getElem?_eq_getElem hj]; rfl
    refine List.ext_getElem (by rw [secL_length, hlen, hl]) fun q hq1 hq2 => ?_
    rw [← hd q hq2, ← show (secL (celG L k)).getD q [] = (secL (celG L k))[q] by rw [List.getD_eq_getElem?_getD, List.getElem?_eq_getElem hq1]; rfl]
    rcases Nat.lt_or_ge q (hdN k) with h3 | h3
    · rw [secL_head (by rw [hlen]; exact h3)]
      have hL64 : (L.getD q []).length = 64 := by rw [hd q hq2]; exact h64 _ (List.getElem_mem hq2)
      refine ext_rd (blkAt_length _ _) hL64 fun c hc => ?_
      rw [rd_blkAt _ _ hc]
      obtain ⟨i, r, hi, hr, e1, e2, e3⟩ : ∃ i r, i / 16 = q ∧ r < 4 ∧ c = i % 16 * 4 + r ∧ 64 * q + c = 4 * i + r ∧ i < 16 * hdN k := ⟨16 * q + c / 4, c % 4, by omega, by omega, by omega, by omega, by omega⟩
      rw [e2]
      have e4 : rd (L.getD q []) (c : Int) = rdB L i r := by rw [rdB, hi, e1]
      rw [e4]
      have b0 := rdB_byte h8 i 0
      have b1 := rdB_byte h8 i 1
      have b2 := rdB_byte h8 i 2
      have b3 := rdB_byte h8 i 3
      rcases Nat.lt_or_ge i k with h4 | h4
      · rw [rd_rowP (by rw [hlen]; exact h4) hr, hge i h4, place4_may (c := ceG L (hdN k) i) (hC i h4).1]
        obtain ⟨a, b, f1, f2, f3, f4⟩ := mayP_nat (hC i h4).1
        have g3 := (hC i h4).2
        simp only [vG, mG, zG] at f1 f2 g3
        match r, hr with
        | 0, _ => show ((vG L i : Nat) : Int) = rdB L i 0; rw [vG]; omega
        | 1, _ => show (0 : Int) = rdB L i 1; omega
        | 2, _ => show ((mG L i : Nat) : Int) = rdB L i 2; rw [mG]; omega
        | 3, _ => show (0 : Int) = rdB L i 3; omega
      · rw [rd_rowP_out (by rw [hlen]; exact h4)]
        have h5 := List.all_eq_true.1 hz i (List.mem_range.2 e3)
        rw [show decide (i < k) = false by simp; omega, Bool.false_or, zeroG_iff (by rw [hi]; exact hL64)] at h5
        obtain ⟨g0, g1, g2, g3⟩ := h5
        match r, hr with
        | 0, _ => exact g0.symm
        | 1, _ => exact g1.symm
        | 2, _ => exact g2.symm
        | 3, _ => exact g3.symm
    · obtain ⟨i, rfl⟩ : ∃ i, q = hdN k + i := ⟨q - hdN k, by omega⟩
      have hi : i < (celG L k).length := by rw [hlen]; omega
      have h6 := secL_tail hi
      rw [hlen] at h6
      rw [h6, hge i (by omega)]
      rfl
/-- one byte changed -/
theorem sumB_set {l : List (List Int)} (h8 : ∀ b ∈ l, Wf8 b) {i k : Nat} (hi : i < l.length) (hk : k < l[i].length) {v : Int} (hv : (Lit.int .u8 v).wf = true) (hne : v ≠ l[i][k]) : sumB (l.set i (l[i].set k v)) ≠ sumB l := by
  have e1 : l = l.take i ++ l[i] :: l.drop (i + 1) := by rw [← List.drop_eq_getElem_cons hi, List.take_append_drop]
  have e2 : l.set i (l[i].set k v) = l.take i ++ (l[i].set k v) :: l.drop (i + 1) := List.set_eq_take_append_cons_drop.trans (if_pos hi)
  have e3 : l[i] = l[i].take k ++ l[i][k] :: l[i].drop (k + 1) := by rw [← List.drop_eq_getElem_cons hk, List.take_append_drop]
  have e4 : l[i].set k v = l[i].take k ++ v :: l[i].drop (k + 1) := List.set_eq_take_append_cons_drop.trans (if_pos hk)
  have f1 : l.flatten = ((l.take i).flatten ++ l[i].take k) ++ l[i][k] :: (l[i].drop (k + 1) ++ (l.drop (i + 1)).flatten) := by
    conv => lhs; rw [e1, List.flatten_append, List.flatten_cons, e3]
    simp only [List.append_assoc, List.cons_append]
  have f2 : (l.set i (l[i].set k v)).flatten = ((l.take i).flatten ++ l[i].take k) ++ v :: (l[i].drop (k + 1) ++ (l.drop (i + 1)).flatten) := by
    conv => lhs; rw [e2, List.flatten_append, List.flatten_cons, e4]
    simp only [List.append_assoc, List.cons_append]
  rw [sumB, sumB, f1, f2]
  simp only [List.map_append, List.map_cons]
  refine more_one _ _ _ _ _ fun h => hne ?_
  have hb := h8 _ (List.getElem_mem hi) _ (List.getElem_mem hk)
  obtain ⟨v0, v1⟩ := bounds_u8 hv
  obtain ⟨x0, x1⟩ := bounds_u8 hb
  have h3 := congrArg BitVec.toNat h
  rw [BitVec.toNat_ofInt, BitVec.toNat_ofInt] at h3
  omega
end Go.Proofs.Ytdchcggllcgokaa.Y

namespace Go.Proofs.Ytdchcggllcgokaa.Y
open Go.RowKit Go.Proofs.Ytdchcggllcgokaa.L Go.Proofs.Ytdchcggllcgokaa.U Go.Proofs.Ytdchcggllcgokaa.R Go.Proofs.Ytdchcggllcgokaa.E Go.Proofs.YtdchcggllcgokaaW.PrintWords
set_option linter.unusedVariables false
set_option linter.unusedSimpArgs false
theorem run_mulR {op : Oper} {a : Act} (x y : Operand) (ho : op.op = .binOp .mul 3 x y 3) {u v r : Nat} (hx : a.eval x = .int .i64 (u : Int)) (hy : a.eval y = .int .i64 (v : Int)) (hr : r = u * v) (hb : r < 9223372036854775808) (w : World) : (execOp a.eval op).run Try.prog w = .ok (.value (.int .i64 (r : Int))) w := by
  have e : (u : Int) * (v : Int) = (r : Int) := by subst hr; simp
  clear hr
  have h2 : -9223372036854775808 ≤ (r : Int) := by omega
  have h3 : (r : Int) ≤ 9223372036854775807 := by omega
  unfold execOp
  simp only [ho, hx, hy]
  go_simp
  rw [IntKind.wrap_i64]
  omega
theorem run_idxU {op : Oper} {a : Act} (x y : Operand) (ho : op.op = .indexAddr 22 x y) {g n c r : Nat} (hx : a.eval x = .slice (some ⟨g, 0, none⟩) n c) (hy : a.eval y = .int .i64 (r : Int)) (hr : r < n) (w : World) : (execOp a.eval op).run Try.prog w = .ok (.value (.pointer (some ⟨g, r, none⟩))) w := by
  have h0 : (0 : Int) ≤ (r : Int) := by omega
  have h1 : (r : Int) < (n : Int) := by omega
  unfold execOp
  simp only [ho, hx, hy]
  go_simp
theorem run_ldU {op : Oper} {a : Act} {w : World} (x : Operand) (ho : op.op = .load 5 x) {g o : Nat} {v : Int} (hc : w.cell? ⟨g, o, none⟩ = some (.int .u8 v)) (hx : a.eval x = .pointer (some ⟨g, o, none⟩)) : (execOp a.eval op).run Try.prog w = .ok (.value (.int .u8 v)) w := by
  unfold execOp
  simp only [ho, hx, Instr.loadAt, Instr.sureAddr, Sem.run_bind, Sem.run_map, Sem.run_pure, Result.andThen_ok]
  have hr : w.rangeAt g o [.int .u8 v] := fun j u hu => by
    match j, hu with
    | 0, hu => simp at hu; subst hu; exact hc
    | j + 1, hu => simp at hu
  have hi : (Try.prog.info? 5).map (·.size) = some ([.int .u8 v] : List Value).length := by kernel_rfl
  first
    | (rw [run_loadVar_mid w g o 5 _ _ hr Try.underlying5 rfl hi]; rfl)
    | (go_simp)
theorem run_u8i {op : Oper} {a : Act} (x : Operand) (ho : op.op = .convert 5 3 x) {v : Nat} (hx : a.eval x = .int .u8 (v : Int)) (hb : v < 256) (w : World) : (execOp a.eval op).run Try.prog w = .ok (.value (.int .i64 (v : Int))) w := by
  have h1 : -9223372036854775808 ≤ (v : Int) := by omega
  have h2 : (v : Int) ≤ 9223372036854775807 := by omega
  unfold execOp
  simp only [ho, hx]
  go_simp
  rw [IntKind.wrap_i64]
  omega
theorem run_plB {op : Oper} {a : Act} (x y : Operand) (ho : op.op = .build 125 #[(0, x), (1, y)]) {s m : Int} (hx : a.eval x = .int .i64 s) (hy : a.eval y = .int .i64 m) (w : World) : (execOp a.eval op).run Try.prog w = .ok (.value (.agg (plL s m).toArray)) w := by
  have hrun : (Instr.build 125 #[(0, .int .i64 s), (1, .int .i64 m)]).run Try.prog w = .ok (.agg (plL s m).toArray) w := by kernel_rfl
  unfold execOp
  simp only [ho, List.map_toArray, List.map_cons, List.map_nil, hx, hy, hrun, Sem.run_map, Sem.run_bind, Result.andThen_ok, Sem.run_pure]
theorem wp_rowAlloc {op : Oper} {a : Act} {w : World} {K : Act → World → Prop} {Q : Exit → Act → World → Prop} (ty : TypeId) (ho : op.op = .alloc ty) (cs : Array Value) (hz : ∀ w : World, (zeroValue ty).run Try.prog w = .ok (.agg cs) w) (d : Option Tmp) (hd : op.dst = d)
    (h : ∀ w1, Row ty w1 w.heap.size cs → Below w.heap.size w w1 → w.heap.size < w1.heap.size → K (a.put d (.pointer (some ⟨w.heap.size, 0, none⟩))) w1) : Oper.wp Try.prog op a w K Q := by
  subst hd
  have := h (w.alloc (.cells cs ty)) (heap_alloc_last w _) (grown_below (World.grownBy_alloc w _ _)) (by simp)
  unfold Oper.wp execOp
  simp only [ho, Instr.alloc, newVar, newRow, Value.cells, Sem.run_bind, Sem.run_pure, Sem.run_map, Result.andThen_ok, hz, run_newObj_alloc]
  exact this
theorem grown_cell {W W1 : World} {g gr o : Nat} {v : Value} (hg : W.grownBy W1 (some g)) (hc : W.cell? ⟨gr, o, none⟩ = some v) (hne : gr ≠ g) : W1.cell? ⟨gr, o, none⟩ = some v := hg.cell hc (fun e => hne (by injection e))
theorem rd_flat {l : List (List Int)} (h64 : ∀ b ∈ l, b.length = 64) {hh : Nat} (hl : hh ≤ l.length) {i r : Nat} (hi : i < 16 * hh) (hr : r < 4) : rd (l.take hh).flatten ((4 * i + r : Nat) : Int) = rdB l i r := by
  have hq : i / 16 < l.length := by omega
  have h := flat_get 64 (l.take hh) (fun v hv => h64 v (List.mem_of_mem_take hv)) (i / 16) (i % 16 * 4 + r) l[i / 16] (by rw [List.getElem?_take, if_pos (by omega), List.getElem?_eq_getElem hq]) (by omega)
  rw [show i / 16 * 64 + (i % 16 * 4 + r) = 4 * i + r by omega] at h
  rw [rdB, rd, rd, Int.toNat_natCast, Int.toNat_natCast, List.getD_eq_getElem?_getD, h, List.getD_eq_getElem?_getD, List.getD_eq_getElem?_getD, List.getElem?_eq_getElem hq]
  rfl
theorem flat_len {l : List (List Int)} (h64 : ∀ b ∈ l, b.length = 64) {hh : Nat} (hl : hh ≤ l.length) : (l.take hh).flatten.length = 64 * hh := by
  rw [flat_length 64 _ (fun v hv => h64 v (List.mem_of_mem_take hv)), take_len hl, Nat.mul_comm]
theorem getX_err {l : List (List Int)} {n : Int} {k : Int} (h : errG l n = k) (hk : k ≠ 0) : errG l n ≠ 0 := by rw [h]; exact hk
set_option maxRecDepth 100000 in
set_option maxHeartbeats 4000000 in
theorem rGet_walk (A : Option Addr) (cap : Nat) (l : List (List Int)) (hw8 : Hid (∀ b ∈ l, Wf8 b)) (ni : Int) (hni : -9223372036854775808 ≤ ni ∧ ni ≤ 9223372036854775807) (wE : World) (HL : Hid (Bks wE A l)) : Calls Try.prog 73 #[.slice A l.length cap, .int .i64 ni] wE fun e w' => GetR l ni wE.heap.size e w' ∧ Below wE.heap.size wE w' := by
  have hcap := HL.out.cap
  have HB := Lib.hid (Below.refl wE.heap.size wE)
  have PS := Lib.hid (fun w => T.rSize_any ni hni w)
  obtain ⟨z, hz⟩ : ∃ z, z = T.sizeN ni := ⟨_, rfl⟩
  rw [← hz] at PS
  obtain ⟨n1, n2⟩ := hni
  by_cases h0 : z = 0
  · have f1 : ((z : Int) == 0) = true := by subst h0; rfl
    have hE := Lib.hid (show errG l ni = 2 by rw [errG, ← hz, if_pos h0])
    clear h0 hz
    go_enter Try.func73, Try.ntmps73
    go_wp2_with (first
      | (go_skip)
      | (go_at_call 50; refine (PS.out _).mono ?_; rintro e w5 ⟨rfl, rfl⟩))
    go_ret2
    exact ⟨.inl ⟨by rw [hE.out]; decide, by rw [hE.out]; rfl⟩, HB.out⟩
  have f1 : ((z : Int) == 0) = false := by rw [beq_eq_false_iff_ne]; omega
  by_cases h1 : l.length < z
  · have f2 : decide ((l.length : Int) < (z : Int)) = true := by simp; omega
    have hE := Lib.hid (show errG l ni = 4 by rw [errG, ← hz, if_neg h0, if_pos h1])
    clear h0 hz
    go_enter Try.func73, Try.ntmps73
    go_wp2_with (first
      | (go_skip)
      | (go_at_call 50; refine (PS.out _).mono ?_; rintro e w5 ⟨rfl, rfl⟩))
    go_ret2
    exact ⟨.inl ⟨by rw [hE.out]; decide, by rw [hE.out]; rfl⟩, HB.out⟩
  have f2 : decide ((l.length : Int) < (z : Int)) = false := by simp; omega
  by_cases h2 : z < l.length
  · have f3 : decide ((z : Int) < (l.length : Int)) = true := by simp; omega
    have hE := Lib.hid (show errG l ni = 5 by rw [errG, ← hz, if_neg h0, if_neg h1, if_pos h2])
    clear h0 hz
    go_enter Try.func73, Try.ntmps73
    go_wp2_with (first
      | (go_skip)
      | (go_at_call 50; refine (PS.out _).mono ?_; rintro e w5 ⟨rfl, rfl⟩))
    go_ret2
    exact ⟨.inl ⟨by rw [hE.out]; decide, by rw [hE.out]; rfl⟩, HB.out⟩
  have f3 : decide ((z : Int) < (l.length : Int)) = false := by simp; omega
  have hE0 : errG l ni = if okG l ni.toNat = true then 0 else 5 := by rw [errG, ← hz, if_neg h0, if_neg h1, if_neg h2]
  obtain ⟨n, rfl, n32, n1p⟩ : ∃ n : Nat, ni = n ∧ n ≤ 32 ∧ 1 ≤ n := by
    rw [T.sizeN] at hz
    split at hz
    · exact ⟨ni.toNat, by omega, by omega, by omega⟩
    · omega
  rw [Int.toNat_natCast] at hE0
  have PH := Lib.hid (fun w => T.places_any n n1p n32 w)
  obtain ⟨hh, hhd⟩ : ∃ hh, hh = hdN n := ⟨_, rfl⟩
  have hsz : z = hh + n := by rw [hz, T.sizeN, if_pos ⟨by omega, by omega⟩, hhd, hdN]; simp
  rw [show (n + 15) / 16 = hh by rw [hhd]; rfl] at PH
  have h16 : n ≤ 16 * hh ∧ hh ≤ 2 ∧ 16 * hh < n + 16 ∧ 1 ≤ hh := by rw [hhd, hdN]; omega
  have HLL := Lib.hid (show l.length = hh + n by omega)
  have HE := Lib.hid hE0
  have HH := Lib.hid hhd
  have HO := Lib.hid (World.ownsRow_nil wE wE.heap.size 5 1)
  subst hsz
  have f4 : decide ((l.length : Int) < (hh : Int) + (n : Int)) = false := by have := HLL.out; simp; omega
  have f5 : decide ((hh : Int) + (n : Int) < (l.length : Int)) = false := by have := HLL.out; simp; omega
  have f6 : ((hh : Int) + (n : Int) == 0) = false := by rw [beq_eq_false_iff_ne]; omega
  clear h0 h1 h2 hz hE0 hhd
  go_enter Try.func73, Try.ntmps73
  go_wp2_with (first
    | (go_skip)
    | (go_at_call 121; refine (PH.out _).mono ?_; rintro e w4 ⟨rfl, rfl⟩)
    | (go_at_call 50; refine (PS.out _).mono ?_; rintro e w5 ⟨rfl, rfl⟩))
  go_loopw [7, 8] (fun xv iv wr => ∃ (x : Value) (q : Nat), x = xv ∧ q ≤ hh ∧ iv = .int .i64 (q : Int) ∧ Hid (wr.ownsRow wE.heap.size 5 1 x (l.take q).flatten.length (nums .u8 (l.take q).flatten)) ∧ Hid (Below wE.heap.size wE wr)) (fun _ iv _ => hh - (intOf iv).toNat)
  case atStart => exact ⟨_, 0, rfl, Nat.zero_le _, rfl, HO, HB⟩
  case round =>
    clear HB HO
    obtain ⟨x, q, rfl, hq, rfl, HO, HB⟩ := hrel
    have hi0 : (0 : Int) ≤ (q : Int) := by omega
    have lbh := HB.out.size
    by_cases hlt : q < hh
    · have hql : q < l.length := by have := HLL.out; omega
      have hfl := Lib.hid (flat_len HL.out.1 (hh := q) (by omega))
      have eN := Lib.hid (show (l.take (q + 1)).flatten = (l.take q).flatten ++ l[q] by rw [List.take_succ_eq_append_getElem hql, List.flatten_append]; simp)
      obtain ⟨g, o, rfl, hg, HR, hb⟩ := (HL.out.below HB.out).at_ q hql
      obtain ⟨b, hbd⟩ : ∃ b, b = l[q] := ⟨_, rfl⟩
      rw [← hbd] at HR hb eN
      clear hbd
      have HRd := Lib.hid (rng_reads HR (by omega))
      rw [hb] at HRd
      have HBl := Lib.hid hb
      have PC := Lib.hid (fun (A : Option Addr) (c : Nat) (w : World) (hr : ReadsInt w .u8 A 64 b) => show Calls Try.prog 41 #[.slice A 64 c] w fun e w' => (∃ A c, e = .returned (.slice A 64 c) ∧ ReadsInt w' .u8 A 64 b) ∧ Below w.heap.size w w' by
        have h := U.copy_b A c b w (by rw [hb]; exact hr) (by omega)
        rw [hb] at h
        refine h.mono ?_
        rintro e w' ⟨⟨A1, c1, rfl, ho⟩, hb2⟩
        have h2 := U.Byts.reads ho
        rw [hb] at h2
        exact ⟨⟨A1, c1, rfl, h2⟩, hb2⟩)
      clear HR hb
      go_wp2_with (first
        | (go_skip)
        | (refine blkAll (.tmp 36) rfl rfl rfl ?_)
        | (go_at_call 41; refine (PC.out _ _ _ HRd.out).mono ?_; rintro e w2 ⟨⟨A2, c2, rfl, hr2⟩, hb⟩; replace HO := Lib.hid (pw_own_below HO.out hb); replace HB := Lib.hid (below_ext HB.out hb); have HR2 := Lib.hid hr2; clear hb hr2)
        | (at_builtin; refine print_append_row (w0 := wE) wE.heap.size rfl (.tmp 33) (.tmp 38) 22 5 .u8 1 rfl Try.underlying22 infoU8 (by decide) x (l.take q).flatten b _ 64 _ rfl rfl HO.out HR2.out HB.out HB.out.size (by have := hfl.out; omega) ?_; intro v1 w5 ho5 hb5 hg5 hat5))
      go_roundw
      case rel =>
        rw [← eN.out] at ho5
        exact ⟨v1, q + 1, rfl, by omega, by go_num, Lib.hid ho5, Lib.hid hb5⟩
      case measure => simp [intOf]; omega
    · obtain rfl : hh = q := by omega
      have hfl := flat_len HL.out.1 (hh := hh) (by have := HLL.out; omega)
      have hO := HO.out
      have HFL := Lib.hid (fun (i r : Nat) (hi : i < 16 * hh) (hr : r < 4) => rd_flat HL.out.1 (hh := hh) (by have := HLL.out; omega) hi hr)
      obtain ⟨fl, hfd⟩ : ∃ fl, fl = (l.take hh).flatten := ⟨_, rfl⟩
      rw [← hfd] at hfl hO HFL
      obtain ⟨A7, c7, rfl⟩ := own_slice hO
      obtain ⟨gr, rfl, hgr⟩ : ∃ gr, A7 = some ⟨gr, 0, none⟩ ∧ gr < wr.heap.size := by
        rcases hO.2 with ⟨he, h1⟩ | ⟨g, cap, cur, he, _, hg, h1, h2, _⟩
        · omega
        · injection he with e1 e2 e3
          exact ⟨g, e1, (Array.getElem?_eq_some_iff.1 hg).1⟩
      have HC := Lib.hid (fun (j : Nat) (hj : j < 64 * hh) => show wr.cell? ⟨gr, j, none⟩ = some (.int .u8 (rd fl (j : Int))) by
        have h5 := hO.cells (g := gr) rfl j (.int .u8 (rd fl (j : Int))) (by rw [← hfl] at hj; simp [nums, rd, List.getD_eq_getElem?_getD, List.getElem?_eq_getElem hj])
        rw [Addr.add_mid, Nat.zero_add] at h5
        exact h5)
      rw [hfl] at hO ⊢
      have HBE := HB
      have HLw := Lib.hid (HL.out.below HB.out)
      have HGr := Lib.hid hgr
      have hd64 := Lib.hid (fun (j : Nat) (hj : j < 16 * hh) => show (l.getD (j / 16) []).length = 64 by
        have hq : j / 16 < l.length := by have := HLL.out; omega
        rw [List.getD_eq_getElem?_getD, List.getElem?_eq_getElem hq]
        exact HL.out.1 _ (List.getElem_mem hq))
      clear HB HO hO hfd hfl
      obtain ⟨w, hw⟩ : ∃ w, w = wr := ⟨_, rfl⟩
      subst hw
      have HB := Lib.hid (Below.refl w.heap.size w)
      have HO := Lib.hid (World.ownsRow_nil w w.heap.size TC 66)
      go_wp2
      go_loopw [9, 10] (fun xv iv wr => ∃ (x : Value) (q : Nat), x = xv ∧ q ≤ n ∧ iv = .int .i64 (q : Int) ∧ Hid (∀ j, j < q → okC l j = true) ∧ Hid (wr.ownsRow w.heap.size TC 66 x q (((celG l n).take q).map celL).flatten) ∧ Hid (Below w.heap.size w wr)) (fun _ iv _ => n - (intOf iv).toNat)
      case atStart => exact ⟨_, 0, rfl, Nat.zero_le _, rfl, Lib.hid (fun j h => absurd h (by omega)), HO, HB⟩
      case round =>
        clear HB HO
        obtain ⟨x, q, rfl, hq, rfl, HA, HO, HB⟩ := hrel
        have hi0 : (0 : Int) ≤ (q : Int) := by omega
        have lbh := HB.out.size
        by_cases hlt : q < n
        · have eC := celG_take l n q hlt
          rw [← HH.out, ceG] at eC
          obtain ⟨r, hr⟩ : ∃ r, r = hh + q := ⟨_, rfl⟩
          have hrl : r < l.length := by have := HLL.out; omega
          have HRr := Lib.hid hr
          rw [← hr] at eC
          obtain ⟨g, o, rfl, hg, HR, hb⟩ := HLw.out.at_ r hrl
          have eb : l.getD r [] = l[r] := by rw [List.getD_eq_getElem?_getD, List.getElem?_eq_getElem hrl]; rfl
          rw [eb] at eC
          have c0 := HC.out (4 * q) (by omega)
          have c1 := HC.out (4 * q + 1) (by omega)
          have c2 := HC.out (4 * q + 2) (by omega)
          have c3 := HC.out (4 * q + 3) (by omega)
          rw [show 4 * q = 4 * q + 0 from rfl, HFL.out q 0 (by omega) (by decide)] at c0
          rw [HFL.out q 1 (by omega) (by decide)] at c1
          rw [HFL.out q 2 (by omega) (by decide)] at c2
          rw [HFL.out q 3 (by omega) (by decide)] at c3
          have e0 := rdB_byte hw8.out q 0
          have e1 := rdB_byte hw8.out q 1
          have e2 := rdB_byte hw8.out q 2
          have e3 := rdB_byte hw8.out q 3
          obtain ⟨s, hs⟩ : ∃ s, s = vG l q := ⟨_, rfl⟩
          obtain ⟨m, hm⟩ : ∃ m, m = mG l q := ⟨_, rfl⟩
          obtain ⟨zz, hzz⟩ : ∃ zz, zz = zG l q := ⟨_, rfl⟩
          have hok : okC l q = (mayP (s : Int) (m : Int) && ((zz : Int) == 0)) := by rw [okC, ← hs, ← hm, ← hzz]
          rw [← hs, ← hm] at eC
          rw [vG] at hs
          rw [mG] at hm
          rw [zG] at hzz
          obtain ⟨b0, hb0⟩ : ∃ b0 : Nat, b0 = (rdB l q 0).toNat := ⟨_, rfl⟩
          obtain ⟨b1, hb1⟩ : ∃ b1 : Nat, b1 = (rdB l q 1).toNat := ⟨_, rfl⟩
          rw [← hb0, ← hb1] at hs
          rw [show rdB l q 0 = (b0 : Int) by omega] at c0
          rw [show rdB l q 1 = (b1 : Int) by omega] at c1
          rw [show rdB l q 2 = (m : Int) by omega] at c2
          rw [show rdB l q 3 = (zz : Int) by omega] at c3
          have l0 : b0 < 256 := by omega
          have l1 : b1 < 256 := by omega
          have l2 : m < 256 := by omega
          have l3 : zz < 256 := by omega
          have HZ := Lib.hid hok
          have hsl : s < 65792 := by omega
          have hq4 : 4 * q + 3 < 64 * hh := by omega
          generalize l[r] = b at HR hb eC
          have HVs := Lib.hid hs
          have HBl := Lib.hid hb
          have EC := Lib.hid eC
          have HR := Lib.hid HR
          have hG := Lib.hid hg
          have C3 := Lib.hid c3
          have HRL := Lib.hid (show 4 * q + 3 < 64 * hh by omega)
          obtain ⟨rl, hrld⟩ : ∃ rl, rl = 64 * hh := ⟨_, rfl⟩
          rw [← hrld]
          rw [← hrld] at HRL hq4
          have HGR := Lib.hid (show gr < wr.drew.heap.size from Nat.lt_of_lt_of_le HGr.out HB.out.size)
          have HNE := Lib.hid (show gr ≠ wr.drew.heap.size by have := HGR.out; omega)
          have HDr := Lib.hid (below_drewN HB.out 1)
          have HS := Lib.hid (show wr.drew.cell? ⟨gr, 4 * q, none⟩ = some (.int .u8 (b0 : Int)) ∧ wr.drew.cell? ⟨gr, 4 * q + 1, none⟩ = some (.int .u8 (b1 : Int)) ∧ wr.drew.cell? ⟨gr, 4 * q + 2, none⟩ = some (.int .u8 (m : Int)) from
            ⟨(HDr.out.cell (p := ⟨gr, 4 * q, none⟩) HGr.out).trans c0, (HDr.out.cell (p := ⟨gr, 4 * q + 1, none⟩) HGr.out).trans c1, (HDr.out.cell (p := ⟨gr, 4 * q + 2, none⟩) HGr.out).trans c2⟩)
          have PM := Lib.hid (fun w => rmay_any (s : Int) (m : Int) w)
          clear c0 c1 c2 c3 e0 e1 e2 e3 hb0 hb1 hs hm hzz hok eC hb eb hrld hr hg
          go_wp2
          refine wp_region_held_drew (S := fun w' => w'.cell? ⟨gr, 4 * q, none⟩ = some (.int .u8 (b0 : Int)) ∧ w'.cell? ⟨gr, 4 * q + 1, none⟩ = some (.int .u8 (b1 : Int)) ∧ w'.cell? ⟨gr, 4 * q + 2, none⟩ = some (.int .u8 (m : Int))) (by kernel_rfl) HS.out (fun hHeld => ?_)
          refine hTake 0 (.slice (some ⟨gr, 0, none⟩) rl c7) rfl (some 45) rfl (by kernel_rfl) (by kernel_rfl) (by kernel_rfl) (fun _ _ _ h => h) rfl (fun _ _ => rfl) hHeld ?_
          simp only [Act.put, List.setIfInBounds_toArray, List.set_cons_zero, List.set_cons_succ]
          refine hTake 1 (.int .i64 (q : Int)) rfl (some 46) rfl (by kernel_rfl) (by kernel_rfl) (by kernel_rfl) (fun _ _ _ h => h) rfl (fun _ _ => rfl) hHeld ?_
          simp only [Act.put, List.setIfInBounds_toArray, List.set_cons_zero, List.set_cons_succ]
          refine hTake 2 (.int .i64 ((4 * q : Nat) : Int)) rfl (some 47) rfl (by kernel_rfl) (by kernel_rfl) (by kernel_rfl) (fun _ _ _ h => h) rfl (fun w' h => run_mulR (.const (.int .i64 4)) (.tmp 46) rfl (u := 4) rfl rfl rfl (by omega) w') hHeld ?_
          simp only [Act.put, List.setIfInBounds_toArray, List.set_cons_zero, List.set_cons_succ]
          refine hTake 3 (.pointer (some ⟨gr, 4 * q, none⟩)) rfl (some 48) rfl (by kernel_rfl) (by kernel_rfl) (by kernel_rfl) (fun _ _ _ h => h) rfl (fun w' h => run_idxU (.tmp 45) (.tmp 47) rfl rfl rfl (by have := HRL.out; omega) w') hHeld ?_
          simp only [Act.put, List.setIfInBounds_toArray, List.set_cons_zero, List.set_cons_succ]
          refine hTake 4 (.int .u8 (b0 : Int)) rfl (some 49) rfl (by kernel_rfl) (by kernel_rfl) (by kernel_rfl) (fun _ _ _ h => h) rfl (fun w' h => run_ldU (.tmp 48) rfl h.1 rfl) hHeld ?_
          simp only [Act.put, List.setIfInBounds_toArray, List.set_cons_zero, List.set_cons_succ]
          refine hTake 5 (.int .i64 (b0 : Int)) rfl (some 50) rfl (by kernel_rfl) (by kernel_rfl) (by kernel_rfl) (fun _ _ _ h => h) rfl (fun w' h => run_u8i (.tmp 49) rfl rfl (by omega) w') hHeld ?_
          simp only [Act.put, List.setIfInBounds_toArray, List.set_cons_zero, List.set_cons_succ]
          refine hTake 6 (.slice (some ⟨gr, 0, none⟩) rl c7) rfl (some 51) rfl (by kernel_rfl) (by kernel_rfl) (by kernel_rfl) (fun _ _ _ h => h) rfl (fun _ _ => rfl) hHeld ?_
          simp only [Act.put, List.setIfInBounds_toArray, List.set_cons_zero, List.set_cons_succ]
          refine hTake 7 (.int .i64 (q : Int)) rfl (some 52) rfl (by kernel_rfl) (by kernel_rfl) (by kernel_rfl) (fun _ _ _ h => h) rfl (fun _ _ => rfl) hHeld ?_
          simp only [Act.put, List.setIfInBounds_toArray, List.set_cons_zero, List.set_cons_succ]
          refine hTake 8 (.int .i64 ((4 * q : Nat) : Int)) rfl (some 53) rfl (by kernel_rfl) (by kernel_rfl) (by kernel_rfl) (fun _ _ _ h => h) rfl (fun w' h => run_mulR (.const (.int .i64 4)) (.tmp 52) rfl (u := 4) rfl rfl rfl (by omega) w') hHeld ?_
          simp only [Act.put, List.setIfInBounds_toArray, List.set_cons_zero, List.set_cons_succ]
          refine hTake 9 (.int .i64 ((4 * q + 1 : Nat) : Int)) rfl (some 54) rfl (by kernel_rfl) (by kernel_rfl) (by kernel_rfl) (fun _ _ _ h => h) rfl (fun w' h => run_addR (.tmp 53) (.const (.int .i64 1)) rfl rfl (v := 1) rfl rfl (by omega) w') hHeld ?_
          simp only [Act.put, List.setIfInBounds_toArray, List.set_cons_zero, List.set_cons_succ]
          refine hTake 10 (.pointer (some ⟨gr, 4 * q + 1, none⟩)) rfl (some 55) rfl (by kernel_rfl) (by kernel_rfl) (by kernel_rfl) (fun _ _ _ h => h) rfl (fun w' h => run_idxU (.tmp 51) (.tmp 54) rfl rfl rfl (by have := HRL.out; omega) w') hHeld ?_
          simp only [Act.put, List.setIfInBounds_toArray, List.set_cons_zero, List.set_cons_succ]
          refine hTake 11 (.int .u8 (b1 : Int)) rfl (some 56) rfl (by kernel_rfl) (by kernel_rfl) (by kernel_rfl) (fun _ _ _ h => h) rfl (fun w' h => run_ldU (.tmp 55) rfl h.2.1 rfl) hHeld ?_
          simp only [Act.put, List.setIfInBounds_toArray, List.set_cons_zero, List.set_cons_succ]
          refine hTake 12 (.int .i64 (b1 : Int)) rfl (some 57) rfl (by kernel_rfl) (by kernel_rfl) (by kernel_rfl) (fun _ _ _ h => h) rfl (fun w' h => run_u8i (.tmp 56) rfl rfl (by omega) w') hHeld ?_
          simp only [Act.put, List.setIfInBounds_toArray, List.set_cons_zero, List.set_cons_succ]
          refine hTake 13 (.int .i64 ((256 * b1 : Nat) : Int)) rfl (some 58) rfl (by kernel_rfl) (by kernel_rfl) (by kernel_rfl) (fun _ _ _ h => h) rfl (fun w' h => run_mulR (.const (.int .i64 256)) (.tmp 57) rfl (u := 256) rfl rfl rfl (by omega) w') hHeld ?_
          simp only [Act.put, List.setIfInBounds_toArray, List.set_cons_zero, List.set_cons_succ]
          refine hTake 14 (.int .i64 (s : Int)) rfl (some 59) rfl (by kernel_rfl) (by kernel_rfl) (by kernel_rfl) (fun _ _ _ h => h) rfl (fun w' h => run_addR (.tmp 50) (.tmp 58) rfl rfl rfl HVs.out (by omega) w') hHeld ?_
          simp only [Act.put, List.setIfInBounds_toArray, List.set_cons_zero, List.set_cons_succ]
          refine hTake 15 (.slice (some ⟨gr, 0, none⟩) rl c7) rfl (some 60) rfl (by kernel_rfl) (by kernel_rfl) (by kernel_rfl) (fun _ _ _ h => h) rfl (fun _ _ => rfl) hHeld ?_
          simp only [Act.put, List.setIfInBounds_toArray, List.set_cons_zero, List.set_cons_succ]
          refine hTake 16 (.int .i64 (q : Int)) rfl (some 61) rfl (by kernel_rfl) (by kernel_rfl) (by kernel_rfl) (fun _ _ _ h => h) rfl (fun _ _ => rfl) hHeld ?_
          simp only [Act.put, List.setIfInBounds_toArray, List.set_cons_zero, List.set_cons_succ]
          refine hTake 17 (.int .i64 ((4 * q : Nat) : Int)) rfl (some 62) rfl (by kernel_rfl) (by kernel_rfl) (by kernel_rfl) (fun _ _ _ h => h) rfl (fun w' h => run_mulR (.const (.int .i64 4)) (.tmp 61) rfl (u := 4) rfl rfl rfl (by omega) w') hHeld ?_
          simp only [Act.put, List.setIfInBounds_toArray, List.set_cons_zero, List.set_cons_succ]
          refine hTake 18 (.int .i64 ((4 * q + 2 : Nat) : Int)) rfl (some 63) rfl (by kernel_rfl) (by kernel_rfl) (by kernel_rfl) (fun _ _ _ h => h) rfl (fun w' h => run_addR (.tmp 62) (.const (.int .i64 2)) rfl rfl (v := 2) rfl rfl (by omega) w') hHeld ?_
          simp only [Act.put, List.setIfInBounds_toArray, List.set_cons_zero, List.set_cons_succ]
          refine hTake 19 (.pointer (some ⟨gr, 4 * q + 2, none⟩)) rfl (some 64) rfl (by kernel_rfl) (by kernel_rfl) (by kernel_rfl) (fun _ _ _ h => h) rfl (fun w' h => run_idxU (.tmp 60) (.tmp 63) rfl rfl rfl (by have := HRL.out; omega) w') hHeld ?_
          simp only [Act.put, List.setIfInBounds_toArray, List.set_cons_zero, List.set_cons_succ]
          refine hTake 20 (.int .u8 (m : Int)) rfl (some 65) rfl (by kernel_rfl) (by kernel_rfl) (by kernel_rfl) (fun _ _ _ h => h) rfl (fun w' h => run_ldU (.tmp 64) rfl h.2.2 rfl) hHeld ?_
          simp only [Act.put, List.setIfInBounds_toArray, List.set_cons_zero, List.set_cons_succ]
          refine hTake 21 (.int .i64 (m : Int)) rfl (some 66) rfl (by kernel_rfl) (by kernel_rfl) (by kernel_rfl) (fun _ _ _ h => h) rfl (fun w' h => run_u8i (.tmp 65) rfl rfl (by omega) w') hHeld ?_
          simp only [Act.put, List.setIfInBounds_toArray, List.set_cons_zero, List.set_cons_succ]
          refine hTake 22 (.agg (plL (s : Int) (m : Int)).toArray) rfl (some 67) rfl (by kernel_rfl) (by kernel_rfl) (by kernel_rfl) (fun _ _ _ h => h) rfl (fun w' h => run_plB (.tmp 59) (.tmp 66) rfl rfl rfl w') hHeld ?_
          simp only [Act.put, List.setIfInBounds_toArray, List.set_cons_zero, List.set_cons_succ]
          refine hOnly 23 rfl (by kernel_rfl) (fun K hK => ?_)
          rw [if_pos (by rfl)]
          refine wp_rowAlloc 125 rfl _ zero_pl (some 11) rfl ?_
          intro w3 K11 hb3 hz3
          simp only [Act.put, List.setIfInBounds_toArray, List.set_cons_zero, List.set_cons_succ]
          refine hK.out _ _ ⟨by rw [hb3.cell (p := ⟨gr, 4 * q, none⟩) HGR.out]; exact HS.out.1, by rw [hb3.cell (p := ⟨gr, 4 * q + 1, none⟩) HGR.out]; exact HS.out.2.1, by rw [hb3.cell (p := ⟨gr, 4 * q + 2, none⟩) HGR.out]; exact HS.out.2.2⟩ (fun hHeld => ?_)
          clear hK K
          refine hOnly 24 rfl (by kernel_rfl) (fun K hK => ?_)
          rw [if_pos (by rfl)]
          refine wp_rowStore 125 (.tmp 11) (.tmp 67) rfl K11 rfl rfl (info_pl _ _) rfl (one_pl _ _) none rfl ?_
          intro w4 KF hg4
          simp only [Act.put, List.setIfInBounds_toArray, List.set_cons_zero, List.set_cons_succ]
          refine hK.out _ _ ⟨grown_cell hg4 hHeld.1 HNE.out, grown_cell hg4 hHeld.2.1 HNE.out, grown_cell hg4 hHeld.2.2 HNE.out⟩ (fun hHeld => ?_)
          clear hK K
          refine wpAnyH_done (by kernel_rfl) ?_ _
          have HB4 := Lib.hid (below_at (below_ext HDr.out hb3) hg4 HB.out.size K11.lt)
          have HO4 := Lib.hid (own_other (pw_own_below HO.out.drew hb3) hg4 (.inr (Ne.symm (own_ne (pw_own_below HO.out.drew hb3) K11 (by decide)))))
          have K11 := Lib.hid KF
          replace HO := HO4
          replace HB := HB4
          clear HO4 HB4 KF hg4 hb3 hHeld HS HDr
          cases hz1 : mayP (s : Int) (m : Int) with
          | false =>
            rw [hz1] at PM HZ
            have hE := Lib.hid (show errG l (n : Int) = 5 by
              rw [HE.out, if_neg]
              intro h
              have h2 := (Bool.and_eq_true_iff.1 h).1
              have h3 := List.all_eq_true.1 h2 q (List.mem_range.2 hlt)
              rw [HZ.out, Bool.false_and] at h3
              exact absurd h3 (by decide))
            clear hz1
            go_wp2_with (first
              | (go_skip)
              | (refine F.rowLoad 125 (.tmp 11) rfl K11.out rfl Try.underlying125 rfl (info_pl _ _) rfl ?_)
              | (go_at_call 119; refine (PM.out _).mono ?_; rintro e w2 ⟨rfl, hb⟩; replace HB := Lib.hid (below_ext HB.out hb); clear hb))
            go_ret2
            exact ⟨.inl ⟨by rw [hE.out]; decide, by rw [hE.out]; rfl⟩, below_ext HBE.out HB.out⟩
          | true =>
            rw [hz1, Bool.true_and] at HZ
            rw [hz1] at PM
            clear hz1
            have eT : (4 * (q : Int) + 3).toNat = 4 * q + 3 := by omega
            by_cases h0 : zz = 0
            · have f7 : ((zz : Int) != 0) = false := by simp [h0]
              have f8 := Lib.hid (show okC l q = true by rw [HZ.out]; simp [h0])
              clear h0
              go_wp2_with (first
                | (go_skip)
                | (refine F.rowLoad 125 (.tmp 11) rfl K11.out rfl Try.underlying125 rfl (info_pl _ _) rfl ?_)
                | (go_at_call 119; refine (PM.out _).mono ?_; rintro e w2 ⟨rfl, hb⟩; replace HO := Lib.hid (pw_own_below HO.out hb); replace K11 := Lib.hid (K11.out.below hb); replace HB := Lib.hid (below_ext HB.out hb); clear hb)
                | (refine F.rowCell (v := .int .u8 (zz : Int)) _ (.tmp 76) rfl ((HB.out.cell (p := ⟨gr, 4 * q + 3, none⟩) HGr.out).trans C3.out) rfl R.agg_u8 rfl ?_))
              refine wp_region_held_drew (S := fun w' => Row 125 w' wr.heap.size (plL (s : Int) (m : Int)).toArray ∧ w'.rangeAt g (o + r * 64) (nums .u8 b)) (by kernel_rfl) ⟨K11.out, fun j v hv => ((below_drewN HB.out 1).cell (p := ⟨g, o + r * 64 + j, none⟩) hG.out).trans (HR.out j v hv)⟩ (fun hHeld => ?_)
              refine hTake 0 (x) rfl (some 80) rfl (by kernel_rfl) (by kernel_rfl) (by kernel_rfl) (fun _ _ _ h => h) rfl (fun _ _ => rfl) hHeld ?_
              simp only [Act.put, List.setIfInBounds_toArray, List.set_cons_zero, List.set_cons_succ]
              refine hTake 1 (.agg (plL (s : Int) (m : Int)).toArray) rfl (some 81) rfl (by kernel_rfl) (by kernel_rfl) (by kernel_rfl) (fun _ _ _ h => h) rfl (fun w' h => run_plcMid (.tmp 11) rfl (row_range h.1) rfl) hHeld ?_
              simp only [Act.put, List.setIfInBounds_toArray, List.set_cons_zero, List.set_cons_succ]
              refine hTake 2 (.slice (some ⟨g, o, none⟩) l.length cap) rfl (some 82) rfl (by kernel_rfl) (by kernel_rfl) (by kernel_rfl) (fun _ _ _ h => h) rfl (fun _ _ => rfl) hHeld ?_
              simp only [Act.put, List.setIfInBounds_toArray, List.set_cons_zero, List.set_cons_succ]
              refine hTake 3 (.int .i64 (hh : Int)) rfl (some 83) rfl (by kernel_rfl) (by kernel_rfl) (by kernel_rfl) (fun _ _ _ h => h) rfl (fun _ _ => rfl) hHeld ?_
              simp only [Act.put, List.setIfInBounds_toArray, List.set_cons_zero, List.set_cons_succ]
              refine hTake 4 (.int .i64 (q : Int)) rfl (some 84) rfl (by kernel_rfl) (by kernel_rfl) (by kernel_rfl) (fun _ _ _ h => h) rfl (fun _ _ => rfl) hHeld ?_
              simp only [Act.put, List.setIfInBounds_toArray, List.set_cons_zero, List.set_cons_succ]
              refine hTake 5 (.int .i64 (r : Int)) rfl (some 85) rfl (by kernel_rfl) (by kernel_rfl) (by kernel_rfl) (fun _ _ _ h => h) rfl (fun w' h => run_addR (.tmp 83) (.tmp 84) rfl rfl rfl HRr.out (by omega) w') hHeld ?_
              simp only [Act.put, List.setIfInBounds_toArray, List.set_cons_zero, List.set_cons_succ]
              refine hTake 6 (.pointer (some ⟨g, o + r * 64, none⟩)) rfl (some 86) rfl (by kernel_rfl) (by kernel_rfl) (by kernel_rfl) (fun _ _ _ h => h) rfl (fun w' h => run_idxB (.tmp 82) (.tmp 85) rfl rfl rfl hrl w') hHeld ?_
              simp only [Act.put, List.setIfInBounds_toArray, List.set_cons_zero, List.set_cons_succ]
              refine hTake 7 (blk b) rfl (some 87) rfl (by kernel_rfl) (by kernel_rfl) (by kernel_rfl) (fun _ _ _ h => h) rfl (fun w' h => run_blkMid (.tmp 86) rfl HBl.out h.2 rfl) hHeld ?_
              simp only [Act.put, List.setIfInBounds_toArray, List.set_cons_zero, List.set_cons_succ]
              refine hTake 8 (cel ⟨(s : Int), (m : Int), b⟩) rfl (some 88) rfl (by kernel_rfl) (by kernel_rfl) (by kernel_rfl) (fun _ _ _ h => h) rfl (fun w' h => run_celB (.tmp 81) (.tmp 87) rfl rfl rfl HBl.out w') hHeld ?_
              simp only [Act.put, List.setIfInBounds_toArray, List.set_cons_zero, List.set_cons_succ]
              refine hOnly 9 rfl (by kernel_rfl) (fun K hK => ?_)
              rw [if_pos (by rfl)]
              refine wp_bsCel (.tmp 88) rfl (show (⟨(s : Int), (m : Int), b⟩ : Ce).b.length = 64 from HBl.out) rfl ?_
              simp only [Act.put, List.setIfInBounds_toArray, List.set_cons_zero, List.set_cons_succ]
              refine hK.out _ _ ⟨K11.out.below ((below_drewN (Below.refl w2.heap.size w2) 1).alloc (Nat.le_refl _) _), fun j v hv => (((below_drewN HB.out 1).alloc HB.out.size _).cell (p := ⟨g, o + r * 64 + j, none⟩) hG.out).trans (HR.out j v hv)⟩ (fun hHeld => ?_)
              clear hK K
              refine hOnly 10 rfl (by kernel_rfl) (fun K hK => ?_)
              refine step_append_cells (w0 := w) w.heap.size rfl (.tmp 80) (.tmp 89) 40 TC zeroCelV 66 80 rfl Try.underlying40 infoC zsC (by decide) (by decide) x q (((celG l n).take q).map celL).flatten (celL ⟨(s : Int), (m : Int), b⟩) rfl rfl (celL_length HBl.out) (one_celL _) HO.out (below_drewN HB.out 1) HB.out.size (by omega) ?_
              intro v1 w9 ho9 hb9 hg9 hat9
              simp only [Act.put, List.setIfInBounds_toArray, List.set_cons_zero, List.set_cons_succ]
              refine hK.out _ _ ⟨blk_grown (show Row 125 w2.drew wr.heap.size (plL (s : Int) (m : Int)).toArray from K11.out) hg9 (own_ne HO.out K11.out (by decide)), fun j v hv => by rw [hb9.cell (p := ⟨g, o + r * 64 + j, none⟩) hG.out]; exact HR.out j v hv⟩ (fun hHeld => ?_)
              clear hK K
              refine hTake 11 (v1) rfl (some 9) rfl (by kernel_rfl) (by kernel_rfl) (by kernel_rfl) (fun _ _ _ h => h) rfl (fun _ _ => rfl) hHeld ?_
              simp only [Act.put, List.setIfInBounds_toArray, List.set_cons_zero, List.set_cons_succ]
              refine wpAnyH_done (by kernel_rfl) ?_ _
              go_wp2
              go_roundw
              case rel =>
                have HA2 : Hid (∀ j, j < q + 1 → okC l j = true) := Lib.hid fun j h => by
                  rcases Nat.lt_or_ge j q with h3 | h3
                  · exact HA.out j h3
                  · obtain rfl : j = q := by omega
                    exact f8.out
                have hO := ho9
                have e9 : (((celG l n).take q).map celL).flatten ++ celL ⟨(s : Int), (m : Int), b⟩ = (((celG l n).take (q + 1)).map celL).flatten := by rw [EC.out]; simp
                rw [e9] at hO
                exact ⟨v1, q + 1, rfl, by omega, by go_num, HA2, Lib.hid hO, Lib.hid hb9⟩
              case measure => simp [intOf]; omega
            · have f7 : ((zz : Int) != 0) = true := by simp [h0]
              have hE := Lib.hid (show errG l (n : Int) = 5 by
                rw [HE.out, if_neg]
                intro h
                have h2 := (Bool.and_eq_true_iff.1 h).1
                have h3 := List.all_eq_true.1 h2 q (List.mem_range.2 hlt)
                rw [HZ.out] at h3
                simp at h3
                omega)
              clear h0
              go_wp2_with (first
                | (go_skip)
                | (refine F.rowLoad 125 (.tmp 11) rfl K11.out rfl Try.underlying125 rfl (info_pl _ _) rfl ?_)
                | (go_at_call 119; refine (PM.out _).mono ?_; rintro e w2 ⟨rfl, hb⟩; replace HO := Lib.hid (pw_own_below HO.out hb); replace K11 := Lib.hid (K11.out.below hb); replace HB := Lib.hid (below_ext HB.out hb); clear hb)
                | (refine F.rowCell (v := .int .u8 (zz : Int)) _ (.tmp 76) rfl ((HB.out.cell (p := ⟨gr, 4 * q + 3, none⟩) HGr.out).trans C3.out) rfl R.agg_u8 rfl ?_))
              go_ret2
              exact ⟨.inl ⟨by rw [hE.out]; decide, by rw [hE.out]; rfl⟩, below_ext HBE.out HB.out⟩
        · obtain rfl : q = n := by omega
          have hO := HO.out
          rw [List.take_of_length_le (by rw [celG_length]; exact Nat.le_refl _)] at hO
          obtain ⟨A9, c9, rfl⟩ := own_slice hO
          replace HO := Lib.hid hO
          clear hO
          go_wp2
          go_loopw [12] (fun iv wr => ∃ i : Nat, 4 * q ≤ i ∧ i ≤ 64 * hh ∧ iv = .int .i64 (i : Int) ∧ Hid (∀ j, 4 * q ≤ j → j < i → rd fl (j : Int) = 0) ∧ Hid (wr.ownsRow w.heap.size TC 66 (.slice A9 q c9) q ((celG l q).map celL).flatten) ∧ Hid (Below w.heap.size w wr)) (fun iv _ => 64 * hh - (intOf iv).toNat)
          case atStart => exact ⟨4 * q, Nat.le_refl _, by omega, by simp, Lib.hid (fun j h h2 => absurd h (by omega)), HO, HB⟩
          case round =>
            clear HO HB
            obtain ⟨i, hqi, hih, rfl, HZs, HO, HB⟩ := hrel
            have hi0 : (0 : Int) ≤ (i : Int) := by omega
            have lbh := HB.out.size
            by_cases hin : i < 64 * hh
            · have d1 : decide ((i : Int) < ((64 * hh : Nat) : Int)) = true := by simp; omega
              have d2 : decide ((i : Int) < 64 * (hh : Int)) = true := by simp; omega
              have d3 : (i : Int) < 64 * (hh : Int) := by omega
              obtain ⟨vv, hvv⟩ : ∃ vv, vv = rd fl (i : Int) := ⟨_, rfl⟩
              have hc := HC.out i hin
              rw [← hvv] at hc
              have HCi := Lib.hid hc
              have HVV := Lib.hid hvv
              clear hc hvv
              by_cases h0 : vv = 0
              · have f7 : (vv != 0) = false := by simp [h0]
                have f8 := Lib.hid h0
                clear h0
                go_wp2_with (first
                  | (go_skip)
                  | (refine F.rowCell (v := .int .u8 vv) _ (.tmp 101) rfl ((HB.out.cell (p := ⟨gr, i, none⟩) HGr.out).trans HCi.out) rfl R.agg_u8 rfl ?_))
                go_roundw
                case rel =>
                  have HZ2 : Hid (∀ j, 4 * q ≤ j → j < i + 1 → rd fl (j : Int) = 0) := Lib.hid fun j h h2 => by
                    rcases Nat.lt_or_ge j i with h3 | h3
                    · exact HZs.out j h h3
                    · obtain rfl : j = i := by omega
                      rw [← HVV.out, f8.out]
                  first
                    | exact ⟨i + 1, by omega, by omega, by go_num, HZ2, HO, HB⟩
                    | exact ⟨i + 1, by omega, by omega, by go_num, HZ2⟩
                case measure => simp [intOf]; omega
              · have f7 : (vv != 0) = true := by simp [h0]
                have hE := Lib.hid (show errG l (q : Int) = 5 by
                  rw [HE.out, if_neg]
                  intro h
                  have h2 := (Bool.and_eq_true_iff.1 h).2
                  have h3 := List.all_eq_true.1 h2 (i / 4) (List.mem_range.2 (by rw [← HH.out]; omega))
                  rw [show decide (i / 4 < q) = false by simp; omega, Bool.false_or, zeroG_iff (hd64.out _ (by omega))] at h3
                  have h4 := HFL.out (i / 4) (i % 4) (by omega) (by omega)
                  rw [show 4 * (i / 4) + i % 4 = i by omega, ← HVV.out] at h4
                  apply h0
                  rw [h4]
                  have h5 : i % 4 = 0 ∨ i % 4 = 1 ∨ i % 4 = 2 ∨ i % 4 = 3 := by omega
                  rcases h5 with h5 | h5 | h5 | h5 <;> rw [h5]
                  · exact h3.1
                  · exact h3.2.1
                  · exact h3.2.2.1
                  · exact h3.2.2.2)
                clear h0
                go_wp2_with (first
                  | (go_skip)
                  | (refine F.rowCell (v := .int .u8 vv) _ (.tmp 101) rfl ((HB.out.cell (p := ⟨gr, i, none⟩) HGr.out).trans HCi.out) rfl R.agg_u8 rfl ?_))
                go_ret2
                exact ⟨.inl ⟨by rw [hE.out]; decide, by rw [hE.out]; rfl⟩, below_ext HBE.out HB.out⟩
            · have d1 : decide ((i : Int) < ((64 * hh : Nat) : Int)) = false := by simp; omega
              have d2 : decide ((i : Int) < 64 * (hh : Int)) = false := by simp; omega
              have hok : okG l q = true := by
                rw [okG, Bool.and_eq_true_iff]
                refine ⟨List.all_eq_true.2 fun j hj => HA.out j (List.mem_range.1 hj), List.all_eq_true.2 fun j hj => ?_⟩
                have hj2 := List.mem_range.1 hj
                rw [← HH.out] at hj2
                rcases Nat.lt_or_ge j q with h3 | h3
                · simp [h3]
                · have hz : ∀ r, r < 4 → rdB l j r = 0 := fun r hr => by
                    rw [← HFL.out j r hj2 hr]
                    exact HZs.out _ (by omega) (by omega)
                  rw [(zeroG_iff (hd64.out j hj2)).2 ⟨hz 0 (by decide), hz 1 (by decide), hz 2 (by decide), hz 3 (by decide)⟩, Bool.or_true]
              have hE := Lib.hid (show errG l (q : Int) = 0 by rw [HE.out, if_pos hok])
              have H64 := Lib.hid (celG_len (n := q) HL.out.1 (by have := HLL.out; rw [← HH.out]; omega))
              clear hok
              go_wp2
              go_ret2
              exact ⟨.inr ⟨hE.out, A9, c9, by rw [Int.toNat_natCast, celG_length]; rfl, by rw [Int.toNat_natCast]; exact ⟨H64.out, by rw [celG_length]; exact own_lower HO.out HBE.out.size⟩⟩, below_ext HBE.out HB.out⟩
end Go.Proofs.Ytdchcggllcgokaa.Y

namespace Go.Proofs.Ytdchcggllcgokaa.Y
open Go.RowKit Go.Proofs.Ytdchcggllcgokaa.L Go.Proofs.Ytdchcggllcgokaa.U Go.Proofs.Ytdchcggllcgokaa.R Go.Proofs.Ytdchcggllcgokaa.E Go.Proofs.YtdchcggllcgokaaW.PrintWords
set_option linter.unusedVariables false
set_option linter.unusedSimpArgs false
def putS (l : List Ce) : List (List Int) := if errC l = 0 then secL l else []
def getS (l : List (List Int)) (n : Int) : List Ce := if errG l n = 0 then celG l n.toNat else []
def PutX (l : List Ce) (e : Ending) (W : World) : Prop := ∃ A c, e = .returned (.tuple #[.slice A (putS l).length c, .int .i64 (errC l)]) ∧ (putS l).length ≤ c ∧ Bks W A (putS l)
def GetX (l : List (List Int)) (n : Int) (e : Ending) (W : World) : Prop := ∃ A c, e = .returned (.tuple #[.slice A (getS l n).length c, .int .i64 (errG l n)]) ∧ Cls W A (getS l n)
theorem Bks.nil (W : World) (A : Option Addr) : Bks W A [] := ⟨fun b hb => by simp at hb, ⟨by simp, fun h0 => absurd h0 (by simp)⟩⟩
theorem Cls.nil (W : World) (A : Option Addr) : Cls W A [] := ⟨fun b hb => by simp at hb, ⟨by simp, fun h0 => absurd h0 (by simp)⟩⟩
theorem nums_flat : ∀ (L : List (List Int)), nums .u8 L.flatten = (L.map (nums .u8)).flatten
  | [] => rfl
  | b :: L => by
    rw [List.flatten_cons, List.map_cons, List.flatten_cons, ← nums_flat L]
    simp [nums]
theorem row_bks {W : World} {g : Nat} {L M : List (List Int)} (hk : Row TB W g (nums .u8 (L ++ M).flatten).toArray) (h64 : ∀ b ∈ L ++ M, b.length = 64) (hm : L.length ≤ 9223372036854775807) : Bks W (some ⟨g, 0, none⟩) L := by
  refine ⟨fun b hb => h64 b (List.mem_append_left _ hb), ⟨by rw [List.length_map]; exact hm, fun h0 => ⟨g, 0, rfl, hk.lt, fun j v hv i u hu => ?_⟩⟩⟩
  have h2 : ((L ++ M).map (nums .u8))[j]? = some v := by
    rw [List.map_append, List.getElem?_append_left (List.getElem?_eq_some_iff.1 hv).1]
    exact hv
  have hi : i < 64 := by
    have h3 := (List.getElem?_eq_some_iff.1 hu).1
    rwa [all64 h64 v (List.mem_of_getElem? h2)] at h3
  have h4 := flat_get 64 ((L ++ M).map (nums .u8)) (all64 h64) j i v h2 hi
  rw [hu, ← nums_flat] at h4
  have h5 := hk.cell (o := j * 64 + i) (by rw [List.getElem?_toArray]; exact h4)
  rw [Nat.zero_add]
  exact h5
theorem Put_x (A : Option Addr) (cap : Nat) (l : List Ce) (w : World) (HL : Hid (Cls w A l)) : Calls Try.prog 47 #[.slice A l.length cap] w fun e w' => PutX l e w' ∧ Below w.heap.size w w' := by
  refine (Put_any A cap l w HL).mono ?_
  rintro e w' ⟨h, hb⟩
  refine ⟨?_, hb⟩
  rcases h with ⟨h1, rfl⟩ | ⟨h1, g, rfl, hg, hk⟩
  · have e1 : putS l = [] := if_neg h1
    exact ⟨none, 0, by rw [e1]; rfl, by rw [e1]; exact Nat.le_refl _, by rw [e1]; exact Bks.nil _ _⟩
  · have e1 : putS l = secL l := if_pos h1
    have e2 := secL_length l
    obtain ⟨k1, k2, k3⟩ := errC_ok h1
    have hd2 : hdN l.length ≤ 2 := by rw [hdN]; omega
    refine ⟨some ⟨g, 0, none⟩, hdN l.length + l.length, by rw [e1, e2, h1], by rw [e1, e2]; exact Nat.le_refl _, ?_⟩
    rw [e1]
    refine row_bks (M := []) ?_ (by rw [List.append_nil]; exact secL_64 HL.out.1) (by omega)
    rw [List.append_nil, secL_flat]
    exact hk
theorem rPut_x (A : Option Addr) (cap : Nat) (l : List Ce) (hl9 : l.length * 80 ≤ 140737488355328) (w : World) (HL : Hid (Cls w A l)) : Calls Try.prog 48 #[.slice A l.length cap] w fun e w' => PutX l e w' ∧ Below w.heap.size w w' := by
  refine (rPut_any A cap l hl9 w HL).mono ?_
  rintro e w' ⟨h, hb⟩
  refine ⟨?_, hb⟩
  rcases h with ⟨h1, rfl⟩ | ⟨h1, A1, c1, rfl, ho⟩
  · have e1 : putS l = [] := if_neg h1
    exact ⟨none, 0, by rw [e1]; rfl, by rw [e1]; exact Nat.le_refl _, by rw [e1]; exact Bks.nil _ _⟩
  · have e1 : putS l = secL l := if_pos h1
    have e2 := secL_length l
    rw [← secL_flat, nums_flat, ← e2] at ho
    have hc : (secL l).length ≤ c1 := by
      rcases ho.2 with ⟨he, h0⟩ | ⟨g, cap, cur, he, _, _, h2, _⟩
      · omega
      · injection he with _ _ e3
        omega
    have hO : OBk w.heap.size w' A1 c1 (secL l) := ⟨secL_64 HL.out.1, ho⟩
    exact ⟨A1, c1, by rw [e1, e2, h1], by rw [e1]; exact hc, by rw [e1]; exact hO.bks⟩
theorem getX_of {l : List (List Int)} {n : Int} {b : Nat} {e : Ending} {W : World} (h : GetR l n b e W) : GetX l n e W := by
  rcases h with ⟨h1, rfl⟩ | ⟨h1, A1, c1, rfl, ho⟩
  · have e1 : getS l n = [] := if_neg h1
    exact ⟨none, 0, by rw [e1]; rfl, by rw [e1]; exact Cls.nil _ _⟩
  · have e1 : getS l n = celG l n.toNat := if_pos h1
    exact ⟨A1, c1, by rw [e1, h1], by rw [e1]; exact ho.cls⟩
theorem Get_x (A : Option Addr) (cap : Nat) (l : List (List Int)) (hw8 : ∀ b ∈ l, Wf8 b) (ni : Int) (hni : -9223372036854775808 ≤ ni ∧ ni ≤ 9223372036854775807) (w : World) (HL : Bks w A l) : Calls Try.prog 54 #[.slice A l.length cap, .int .i64 ni] w fun e w' => GetX l ni e w' ∧ Below w.heap.size w w' := by
  refine (Get_any A cap l hw8 ni hni w HL).mono ?_
  rintro e w' ⟨h, hb⟩
  exact ⟨getX_of h, hb⟩
theorem rGet_x (A : Option Addr) (cap : Nat) (l : List (List Int)) (hw8 : ∀ b ∈ l, Wf8 b) (ni : Int) (hni : -9223372036854775808 ≤ ni ∧ ni ≤ 9223372036854775807) (w : World) (HL : Bks w A l) : Calls Try.prog 73 #[.slice A l.length cap, .int .i64 ni] w fun e w' => GetX l ni e w' ∧ Below w.heap.size w w' := by
  refine (rGet_walk A cap l (Lib.hid hw8) ni hni w (Lib.hid HL)).mono ?_
  rintro e w' ⟨h, hb⟩
  exact ⟨getX_of h, hb⟩
/-! ### WideBlocks -/
theorem row_setCells {T : TypeId} {g : Nat} : ∀ (vs old pre post : List Value) (o : Nat) (W : World), Row T W g (pre ++ old ++ post).toArray → pre.length = o → old.length = vs.length → Row T (W.setCells g o vs) g (pre ++ vs ++ post).toArray ∧ W.grownBy (W.setCells g o vs) (some g)
  | [], old, pre, post, o, W, hk, hp, ho => by
    obtain rfl : old = [] := List.eq_nil_of_length_eq_zero (by simpa using ho)
    exact ⟨hk, World.grownBy.refl W _⟩
  | v :: vs, [], pre, post, o, W, hk, hp, ho => by simp at ho
  | v :: vs, u :: old, pre, post, o, W, hk, hp, ho => by
    obtain ⟨h1, h2⟩ := setCell_row (o := o) (v := v) hk
    have e1 : (pre ++ (u :: old) ++ post).toArray.setIfInBounds o v = ((pre ++ [v]) ++ old ++ post).toArray := by
      rw [List.setIfInBounds_toArray, ← hp]
      congr 1
      simp
    rw [e1] at h1
    obtain ⟨h3, h4⟩ := row_setCells vs old (pre ++ [v]) post (o + 1) _ h1 (by rw [List.length_append, hp]; rfl) (by simpa using ho)
    refine ⟨?_, World.grownBy.trans h2 h4⟩
    have e2 : pre ++ (v :: vs) ++ post = (pre ++ [v]) ++ vs ++ post := by simp
    rw [e2, World.setCells]
    exact h3
theorem row_there' {T : TypeId} {W : World} {g : Nat} {cs : Array Value} (hk : Row T W g cs) {o n : Nat} (h : o + n ≤ cs.size) : W.there g o n := fun j hj => by
  refine ⟨?_, hk.free⟩
  rw [hk.cell (v := cs[o + j]) (Array.getElem?_eq_getElem (by omega))]
  rfl
section
variable {ops : Array Oper} {rest : List Oper} {op : Oper} {a : Act} {w : World} {Q : Exit → Act → World → Prop}
/-- a block is laid into a slice of blocks -/
theorem blkPutMid (x y : Operand) (ho : op.op = .store 50 x y) {g o : Nat} (pre old post b : List Int) (hk : Row TB w g (nums .u8 (pre ++ old ++ post)).toArray) (hp : pre.length = o) (hold : old.length = 64) (hb : b.length = 64) (hx : a.eval x = .pointer (some ⟨g, o, none⟩)) (hy : a.eval y = blk b) (hw : Region.wanted op (yielded ops a.tmps) = true)
    (h : ∀ w1, Row TB w1 g (nums .u8 (pre ++ b ++ post)).toArray → w.grownBy w1 (some g) → wpList Try.prog ops Q rest (a.put op.dst undef) w1) : wpList Try.prog ops Q (op :: rest) a w := by
  refine wanted_step hw fun K hK => ?_
  have e1 : nums .u8 (pre ++ old ++ post) = nums .u8 pre ++ nums .u8 old ++ nums .u8 post := by simp [nums]
  have e2 : nums .u8 (pre ++ b ++ post) = nums .u8 pre ++ nums .u8 b ++ nums .u8 post := by simp [nums]
  rw [e1] at hk
  have hs := row_setCells (nums .u8 b) (nums .u8 old) (nums .u8 pre) (nums .u8 post) o w hk (by rw [nums_length, hp]) (by rw [nums_length, nums_length, hold, hb])
  have ht : w.there g o (nums .u8 b).toArray.size := row_there' hk (by simp only [List.size_toArray, List.length_append, nums_length]; omega)
  have hrun := run_storeVar_mid (P := Try.prog) w g o 50 (nums .u8 b).toArray ht (R.info_of hb) (R.one_of b)
  unfold Oper.wp execOp
  simp only [ho, hx, hy, blk, Instr.storeAt, Instr.sureAddr, Sem.run_bind, Sem.run_pure, Result.andThen_ok, hrun]
  refine hK _ _ (h _ ?_ ?_)
  · rw [e2]; exact hs.1
  · exact hs.2
theorem blkMakeL (x y : Operand) (ho : op.op = .makeSlice 42 x y) (c : Nat) (hx : a.eval x = .int .i64 (c : Int)) (hy : a.eval y = .int .i64 (c : Int)) (hc : c * 64 ≤ 140737488355328) (hw : Region.wanted op (yielded ops a.tmps) = true)
    (h : ∀ w1, Row TB w1 w.heap.size (nums .u8 (Z (64 * c))).toArray → Below w.heap.size w w1 → w.heap.size < w1.heap.size → wpList Try.prog ops Q rest (a.put op.dst (.slice (some ⟨w.heap.size, 0, none⟩) c c)) w1) : wpList Try.prog ops Q (op :: rest) a w := by
  refine wanted_step hw fun K hK => ?_
  have hi := infoB
  have hrun : (Instr.makeSlice 42 (.int .i64 (c : Int)) (.int .i64 (c : Int))).run Try.prog w = .ok (.slice (some ⟨w.heap.size, 0, none⟩) c c) (w.alloc (.cells (nums .u8 (Z (64 * c))).toArray TB)) := by
    cases hq : Try.prog.info? 50 with
    | none => simp [hq] at hi
    | some ie =>
      simp only [hq, Option.map_some, Option.some.injEq, Prod.mk.injEq] at hi
      obtain ⟨h1, h2, h3⟩ := hi
      have hr := run_make (P := Try.prog) w 42 TB ie zeroBlkV Try.underlying42 hq h1 .i64 .i64 (c : Int) (c : Int) (by omega) (by omega) (by rw [h3]; omega) (by omega)
      rw [hr, Int.toNat_natCast, h2]
      rw [made64]
  have hg := World.grownBy_alloc w (.cells (nums .u8 (Z (64 * c))).toArray TB) none
  unfold Oper.wp execOp
  simp only [ho, hx, hy, hrun, Sem.run_bind, Sem.run_map, Sem.run_pure, Result.andThen_ok]
  exact hK _ _ (h _ (heap_alloc_last w _) (grown_below hg) (by simp))
end
def seven : List Int := 7 :: Z 63
theorem seven_length : seven.length = 64 := by simp [seven, Z]
def sv : Nat → List Int
  | 0 => Z 128
  | 1 => seven ++ Z 64
  | _ => seven ++ seven
theorem sv_set {l : List (List Int)} (h64 : ∀ b ∈ l, b.length = 64) {k : Nat} (hk : k < 2) : (l.flatten ++ sv k).set (64 * (l.length + k)) 7 = l.flatten ++ sv (k + 1) := by
  have hl : l.flatten.length = 64 * l.length := by rw [flat_length 64 l h64, Nat.mul_comm]
  rw [List.set_append_right _ _ (by omega), show 64 * (l.length + k) - l.flatten.length = 64 * k by omega]
  congr 1
  match k, hk with
  | 0, _ => decide
  | 1, _ => decide
theorem sv_length (k : Nat) : (sv k).length = 128 := by
  match k with
  | 0 => simp [sv, Z]
  | 1 => simp [sv, Z, seven]
  | k + 2 => simp [sv, Z, seven]
def wFL (l : List (List Int)) (q : Nat) : List Int := (l.take q).flatten ++ Z (64 * (l.length + 2 - q))
set_option maxRecDepth 100000 in
set_option maxHeartbeats 2000000 in
theorem Wide_any (A : Option Addr) (cap : Nat) (l : List (List Int)) (hn : l.length * 64 ≤ 140737488351232) (w : World) (HL : Hid (Bks w A l)) : Calls Try.prog 72 #[.slice A l.length cap] w fun e w' => (∃ g, e = .returned (.slice (some ⟨g, 0, none⟩) l.length (l.length + 2)) ∧ Row TB w' g (nums .u8 (l.flatten ++ sv 2)).toArray) ∧ Below w.heap.size w w' := by
  have HB := Lib.hid (Below.refl w.heap.size w)
  have tok0 : True := trivial
  go_enter Try.func72, Try.ntmps72
  go_wp2_with (first
    | (go_skip)
    | (have _t := tok0; refine blkMakeL (.tmp 8) (.tmp 8) rfl (l.length + 2) (congrArg (Value.int .i64) (show ((l.length : Int) + 2) = ((l.length + 2 : Nat) : Int) by omega)) (congrArg (Value.int .i64) (show ((l.length : Int) + 2) = ((l.length + 2 : Nat) : Int) by omega)) (by omega) rfl ?_; intro w1 hk hb hz; replace HB := Lib.hid (below_ext HB.out hb); have K := Lib.hid hk; clear hk hb hz _t tok0))
  replace K := Lib.hid (show Row TB w1 w.heap.size (nums .u8 (wFL l 0)).toArray by rw [wFL, List.take_zero, List.flatten_nil, List.nil_append, Nat.sub_zero]; exact K.out)
  go_loopw [4] (fun iv wr => ∃ q : Nat, q ≤ l.length ∧ iv = .int .i64 (q : Int) ∧ Hid (Row TB wr w.heap.size (nums .u8 (wFL l q)).toArray) ∧ Hid (Below w.heap.size w wr)) (fun iv _ => l.length - (intOf iv).toNat)
  case atStart => exact ⟨0, Nat.zero_le _, rfl, K, HB⟩
  case round =>
    clear K HB
    obtain ⟨q, hq, rfl, K, HB⟩ := hrel
    have hi0 : (0 : Int) ≤ (q : Int) := by omega
    have lbh := HB.out.size
    by_cases hlt : q < l.length
    · obtain ⟨g, o, rfl, hg, HR, hb⟩ := (HL.out.below HB.out).at_ q hlt
      have e1 : wFL l q = (l.take q).flatten ++ Z 64 ++ Z (64 * (l.length + 1 - q)) := by
        rw [wFL, show 64 * (l.length + 2 - q) = 64 + 64 * (l.length + 1 - q) by omega, Z_add, List.append_assoc]
      have e2 : (l.take q).flatten ++ l[q] ++ Z (64 * (l.length + 1 - q)) = wFL l (q + 1) := by
        rw [wFL, List.take_succ_eq_append_getElem hlt, List.flatten_append, show l.length + 2 - (q + 1) = l.length + 1 - q by omega]; simp
      have e3 : (l.take q).flatten.length = q * 64 := by rw [flat_length 64 _ (fun v hv => HL.out.1 v (List.mem_of_mem_take hv)), take_len (by omega)]
      replace K := Lib.hid (show Row TB wr w.heap.size (nums .u8 ((l.take q).flatten ++ Z 64 ++ Z (64 * (l.length + 1 - q)))).toArray by rw [← e1]; exact K.out)
      have E2 := Lib.hid e2
      have E3 := Lib.hid e3
      have HBl := Lib.hid hb
      have HRb := Lib.hid HR
      clear e1 e2 e3 hb HR
      generalize l[q] = b at HBl HRb E2
      go_wp2_with (first
        | (go_skip)
        | (refine blkMid (.tmp 20) rfl HBl.out HRb.out rfl rfl ?_)
        | (refine blkPutMid (.tmp 22) (.tmp 21) rfl (o := q * 64) _ (Z 64) _ b K.out E3.out (Z_length 64) HBl.out rfl rfl rfl ?_; intro w4 hk hg4; rw [E2.out] at hk; replace HB := Lib.hid (below_at HB.out hg4 (Nat.le_refl _) K.out.lt); replace K := Lib.hid hk; clear hk hg4))
      go_roundw
      case rel =>
        first
          | exact ⟨q + 1, by omega, by go_num, K, HB⟩
          | exact ⟨q + 1, by omega, by go_num, K⟩
      case measure => simp [intOf]; omega
    · obtain rfl : q = l.length := by omega
      replace K := Lib.hid (show Row TB wr w.heap.size (nums .u8 (l.flatten ++ sv 0)).toArray by
        have h := K.out
        rw [wFL, List.take_length, show 64 * (l.length + 2 - l.length) = 128 by omega] at h
        exact h)
      go_wp2
      go_loopw [5] (fun iv wr => ∃ k : Nat, k ≤ 2 ∧ iv = .int .i64 ((l.length + k : Nat) : Int) ∧ Hid (Row TB wr w.heap.size (nums .u8 (l.flatten ++ sv k)).toArray) ∧ Hid (Below w.heap.size w wr)) (fun iv _ => l.length + 2 - (intOf iv).toNat)
      case atStart => exact ⟨0, by decide, rfl, K, HB⟩
      case round =>
        clear K HB
        obtain ⟨k, hk2, rfl, K, HB⟩ := hrel
        have lbh := HB.out.size
        obtain ⟨i, hi⟩ : ∃ i, i = l.length + k := ⟨_, rfl⟩
        have HI := Lib.hid hi
        rw [← hi]
        have hi0 : (0 : Int) ≤ (i : Int) := by omega
        by_cases hlt : k < 2
        · have d1 : decide ((i : Int) < ((l.length + 2 : Nat) : Int)) = true := by simp; omega
          have d2 : decide ((i : Int) < (l.length : Int) + 2) = true := by simp; omega
          have hil : i < l.length + 2 := by omega
          have hlen := Lib.hid (show 64 * (l.length + k) < (l.flatten ++ sv k).length by rw [List.length_append, sv_length, flat_length 64 l HL.out.1]; omega)
          have HS := Lib.hid (sv_set HL.out.1 hlt)
          have hpos : w.heap.size < wr.heap.size := K.out.lt
          clear hi
          go_wp2_with (first
            | (go_skip)
            | (refine plcSet (.tmp 34) _ rfl K.out rfl (o4 := 64 * (l.length + k)) (by have := HI.out; omega) hlen.out 7 rfl rfl ?_; intro w4 hk hg4; rw [HS.out] at hk; replace HB := Lib.hid (below_at HB.out hg4 (Nat.le_refl _) K.out.lt); replace K := Lib.hid hk; clear hk hg4))
          go_roundw
          case rel =>
            have eI : Value.int .i64 ((i : Int) + 1) = Value.int .i64 ((l.length + (k + 1) : Nat) : Int) := by have := HI.out; congr 1; omega
            first
              | exact ⟨k + 1, by omega, eI, K, HB⟩
              | exact ⟨k + 1, by omega, eI, K⟩
          case measure => simp [intOf]; omega
        · have d1 : decide ((i : Int) < ((l.length + 2 : Nat) : Int)) = false := by simp; omega
          have d2 : decide ((i : Int) < (l.length : Int) + 2) = false := by simp; omega
          obtain rfl : k = 2 := by omega
          clear hi
          go_wp2
          go_ret
          exact ⟨⟨_, rfl, K.out⟩, HB.out⟩
end Go.Proofs.Ytdchcggllcgokaa.Y

namespace Go.Proofs.Ytdchcggllcgokaa.Y
open Go.RowKit Go.Proofs.Ytdchcggllcgokaa.L Go.Proofs.Ytdchcggllcgokaa.U Go.Proofs.Ytdchcggllcgokaa.R Go.Proofs.Ytdchcggllcgokaa.E Go.Proofs.YtdchcggllcgokaaW.PrintWords
set_option linter.unusedVariables false
set_option linter.unusedSimpArgs false
theorem row_rng {W : World} {g o : Nat} {pre b post : List Int} (hk : Row TB W g (nums .u8 (pre ++ b ++ post)).toArray) (hp : pre.length = o) : W.rangeAt g o (nums .u8 b) := fun j v hv => by
  refine hk.cell ?_
  have e1 : nums .u8 (pre ++ b ++ post) = nums .u8 pre ++ nums .u8 b ++ nums .u8 post := by simp [nums]
  have hj := (List.getElem?_eq_some_iff.1 hv).1
  rw [List.getElem?_toArray, e1, List.append_assoc, List.getElem?_append_right (by rw [nums_length]; omega), nums_length, hp, show o + j - o = j by omega, List.getElem?_append_left hj]
  exact hv
def ffB : List Int := 255 :: Z 63
def pB : List Int := [1, 0, 2, 0] ++ Z 60
section
variable {ops : Array Oper} {rest : List Oper} {op : Oper} {a : Act} {w : World} {Q : Exit → Act → World → Prop}
theorem blk7 (ho : op.op = .build 50 #[(0, .const (.int .u8 7))]) (hw : Region.wanted op (yielded ops a.tmps) = true)
    (h : wpList Try.prog ops Q rest (a.put op.dst (blk seven)) w) : wpList Try.prog ops Q (op :: rest) a w := by
  refine val_step ?_ hw h
  have hrun : (Instr.build 50 #[(0, .int .u8 7)]).run Try.prog w = .ok (blk seven) w := by kernel_rfl
  have ev : ∀ v, a.eval (.const v) = v := fun _ => rfl
  unfold execOp
  simp only [ho, List.map_toArray, List.map_cons, List.map_nil, ev, hrun, Sem.run_bind, Sem.run_map, Sem.run_pure, Result.andThen_ok]
theorem blkff (ho : op.op = .build 50 #[(0, .const (.int .u8 255))]) (hw : Region.wanted op (yielded ops a.tmps) = true)
    (h : wpList Try.prog ops Q rest (a.put op.dst (blk ffB)) w) : wpList Try.prog ops Q (op :: rest) a w := by
  refine val_step ?_ hw h
  have hrun : (Instr.build 50 #[(0, .int .u8 255)]).run Try.prog w = .ok (blk ffB) w := by kernel_rfl
  have ev : ∀ v, a.eval (.const v) = v := fun _ => rfl
  unfold execOp
  simp only [ho, List.map_toArray, List.map_cons, List.map_nil, ev, hrun, Sem.run_bind, Sem.run_map, Sem.run_pure, Result.andThen_ok]
theorem blkpp (ho : op.op = .build 50 #[(0, .const (.int .u8 1)), (1, .const (.int .u8 0)), (2, .const (.int .u8 2)), (3, .const (.int .u8 0))]) (hw : Region.wanted op (yielded ops a.tmps) = true)
    (h : wpList Try.prog ops Q rest (a.put op.dst (blk pB)) w) : wpList Try.prog ops Q (op :: rest) a w := by
  refine val_step ?_ hw h
  have hrun : (Instr.build 50 #[(0, .int .u8 1), (1, .int .u8 0), (2, .int .u8 2), (3, .int .u8 0)]).run Try.prog w = .ok (blk pB) w := by kernel_rfl
  have ev : ∀ v, a.eval (.const v) = v := fun _ => rfl
  unfold execOp
  simp only [ho, List.map_toArray, List.map_cons, List.map_nil, ev, hrun, Sem.run_bind, Sem.run_map, Sem.run_pure, Result.andThen_ok]
theorem celBuildS (x y : Operand) (ho : op.op = .build 127 #[(0, x), (1, y)]) {s m : Int} {b : List Int} (hx : a.eval x = .agg (plL s m).toArray) (hy : a.eval y = blk b) (hb : b.length = 64) (hw : Region.wanted op (yielded ops a.tmps) = true)
    (h : wpList Try.prog ops Q rest (a.put op.dst (cel ⟨s, m, b⟩)) w) : wpList Try.prog ops Q (op :: rest) a w :=
  val_step (run_celB x y ho hx hy hb w) hw h
theorem celBuild1 (x : Operand) (ho : op.op = .buildSlice 40 1 #[(0, x)]) {c : Ce} (hb : c.b.length = 64) (hx : a.eval x = cel c) (hw : Region.wanted op (yielded ops a.tmps) = true)
    (h : ∀ w1, Row TC w1 w.heap.size (celL c).toArray → Below w.heap.size w w1 → wpList Try.prog ops Q rest (a.put op.dst (.slice (some ⟨w.heap.size, 0, none⟩) 1 1)) w1) : wpList Try.prog ops Q (op :: rest) a w := by
  refine wanted_step hw fun K hK => ?_
  have hg := World.grownBy_alloc w (.cells (celL c).toArray TC) none
  unfold Oper.wp execOp
  simp only [ho, List.map_toArray, List.map_cons, List.map_nil, hx, run_bsCel hb, Sem.run_bind, Sem.run_map, Sem.run_pure, Result.andThen_ok]
  exact hK _ _ (h _ (heap_alloc_last w _) (grown_below hg))
end
theorem row_cls1 {W : World} {g : Nat} {c : Ce} (hk : Row TC W g (celL c).toArray) (h64 : c.b.length = 64) : Cls W (some ⟨g, 0, none⟩) [c] := by
  refine ⟨fun x hx => by obtain rfl := List.mem_singleton.1 hx; exact h64, ⟨by simp, fun h0 => ⟨g, 0, rfl, hk.lt, fun j v hv i u hu => ?_⟩⟩⟩
  have hj : j = 0 := by have := (List.getElem?_eq_some_iff.1 hv).1; simp at this; omega
  subst hj
  simp at hv
  subst hv
  rw [show 0 + 0 * 66 + i = i by omega]
  exact hk.cell (by rw [List.getElem?_toArray]; exact hu)
theorem blkAt_wf {row : List Int} (h : Wf8 row) (j : Nat) : Wf8 (blkAt row j) := fun x hx => by
  rcases List.mem_append.1 hx with h1 | h1
  · exact h x (List.mem_of_mem_drop (List.mem_of_mem_take h1))
  · exact zeros_wf _ x h1
theorem rowP_wf {l : List Ce} (hm : mayL l = true) : Wf8 (rowP l) := fun x hx => by
  obtain ⟨v, hv, hx⟩ := List.mem_flatten.1 hx
  obtain ⟨c, hc, rfl⟩ := List.mem_map.1 hv
  have hp : mayP c.s c.m = true := by
    obtain ⟨i, hi, rfl⟩ := List.getElem_of_mem hc
    exact mayL_at hm hi
  rw [place4_may hp] at hx
  obtain ⟨a, b, e1, e2, h1, h2⟩ := mayP_nat hp
  rw [e1, e2] at hx
  simp only [List.mem_cons, List.not_mem_nil, or_false] at hx
  rcases hx with rfl | rfl | rfl | rfl
  · exact WalkArith.wf_u8 (by omega)
  · decide
  · exact WalkArith.wf_u8 (by omega)
  · decide
theorem secL_wf {l : List Ce} (hm : mayL l = true) (h8 : ∀ c ∈ l, Wf8 c.b) : ∀ b ∈ secL l, Wf8 b := by
  intro b hb
  rcases List.mem_append.1 hb with h1 | h1
  · obtain ⟨j, _, rfl⟩ := List.mem_map.1 h1; exact blkAt_wf (rowP_wf hm) j
  · obtain ⟨c, hc, rfl⟩ := List.mem_map.1 h1; exact h8 c hc
set_option maxRecDepth 100000 in
set_option maxHeartbeats 2000000 in
theorem Left_any (g : Nat) (B : Option Addr) (d : Nat) (l : List (List Int)) (hn : l.length * 64 ≤ 140737488351232) (w : World) (HK : Hid (Row TB w g (nums .u8 (l.flatten ++ sv 2)).toArray)) (HX : Hid (Bks w (some ⟨g, 0, none⟩) l)) (HY : Hid (Bks w B l)) :
    Calls Try.prog 76 #[.slice (some ⟨g, 0, none⟩) l.length (l.length + 2), .slice B l.length d] w fun e w' => e = .returned (.bool true) ∧ Below w.heap.size w w' := by
  have HB := Lib.hid (Below.refl w.heap.size w)
  have PB := Lib.hid (fun (w : World) (hx : Bks w (some ⟨g, 0, none⟩) l) (hy : Bks w B l) => show Calls Try.prog 51 #[.slice (some ⟨g, 0, none⟩) l.length (l.length + 2), .slice B l.length d] w fun e w' => e = .returned (.bool true) ∧ Below w.heap.size w w' by
    refine (Blocks_any _ _ _ _ l l w (Lib.hid hx) (Lib.hid hy)).mono ?_
    rintro e w' ⟨⟨b, rfl, hb⟩, h2⟩
    exact ⟨by rw [hb.2 rfl], h2⟩)
  have hgl : g < w.heap.size := HK.out.lt
  have HLen := Lib.hid (show l.flatten.length = l.length * 64 from flat_length 64 l HX.out.1)
  have f1 : decide ((l.length : Int) + 2 < (l.length : Int) + 2) = false := by simp
  have f2 : decide (l.length + 2 < l.length + 2) = false := by simp
  go_enter Try.func76, Try.ntmps76
  go_wp2_with (first
    | (go_skip)
    | (go_at_call 51; refine (PB.out _ HX.out HY.out).mono ?_; rintro e w2 ⟨rfl, hb⟩; replace HB := Lib.hid (below_ext HB.out hb); clear hb))
  go_loopw [6] (fun iv wr => ∃ k : Nat, k ≤ 2 ∧ iv = .int .i64 ((l.length + k : Nat) : Int) ∧ Hid (Below w.heap.size w wr)) (fun iv _ => l.length + 2 - (intOf iv).toNat)
  case atStart => exact ⟨0, by decide, rfl, HB⟩
  case round =>
    clear HB
    obtain ⟨k, hk2, rfl, HB⟩ := hrel
    have lbh := HB.out.size
    obtain ⟨i, hi⟩ : ∃ i, i = l.length + k := ⟨_, rfl⟩
    have HI := Lib.hid hi
    rw [← hi]
    have hi0 : (0 : Int) ≤ (i : Int) := by omega
    by_cases hlt : k < 2
    · have d1 : decide ((i : Int) < ((l.length + 2 : Nat) : Int)) = true := by simp; omega
      have d2 : decide ((i : Int) < (l.length : Int) + 2) = true := by simp; omega
      have hil : i < l.length + 2 := by omega
      have K := HK.out.below HB.out
      have HR := Lib.hid (show wr.rangeAt g (i * 64) (nums .u8 seven) by
        have hl := HLen.out
        rcases (by omega : k = 0 ∨ k = 1) with h0 | h0
        · exact row_rng (pre := l.flatten) (b := seven) (post := seven) (by rw [List.append_assoc]; exact K) (by omega)
        · exact row_rng (pre := l.flatten ++ seven) (b := seven) (post := []) (by rw [List.append_nil, List.append_assoc]; exact K) (by rw [List.length_append, seven_length]; omega))
      clear hi K
      go_wp2_with (first
        | (go_skip)
        | (refine blkMid (.tmp 37) rfl seven_length HR.out rfl rfl ?_)
        | (refine blk7 rfl rfl ?_)
        | (refine F.blkNeq (.tmp 38) (.tmp 39) _ rfl rfl rfl seven_length seven_length false (by simp) rfl ?_))
      go_roundw
      case rel =>
        have eI : Value.int .i64 ((i : Int) + 1) = Value.int .i64 ((l.length + (k + 1) : Nat) : Int) := by have := HI.out; congr 1; omega
        first
          | exact ⟨k + 1, by omega, eI, HB⟩
          | exact ⟨k + 1, by omega, eI⟩
      case measure => simp [intOf]; omega
    · have d1 : decide ((i : Int) < ((l.length + 2 : Nat) : Int)) = false := by simp; omega
      have d2 : decide ((i : Int) < (l.length : Int) + 2) = false := by simp; omega
      clear hi
      go_wp2
      go_ret
      exact ⟨rfl, HB.out⟩
def c0 : Ce := ⟨1, 2, ffB⟩
theorem ffB_length : ffB.length = 64 := by simp [ffB, Z]
theorem pB_length : pB.length = 64 := by simp [pB, Z]
theorem ffB_wf : Wf8 ffB := fun x hx => by
  rcases List.mem_cons.1 hx with rfl | h
  · decide
  · exact zeros_wf _ x h
theorem c0_err : errC [c0] = 0 := by decide
theorem nil_err : errC [] = 2 := by decide
theorem c0_sec : secL [c0] = [pB, ffB] := by
  have h1 : rowP [c0] = [1, 0, 2, 0] := by
    rw [rowP, List.map_cons, List.map_nil, List.flatten_cons, List.flatten_nil, List.append_nil]
    exact place4_may (c := c0) (by decide)
  have h2 : hdN [c0].length = 1 := rfl
  rw [secL, h1, h2]
  rfl
theorem sz0 : T.sizeN 0 = 0 := by decide
theorem sz17 : T.sizeN 17 = 19 := by decide
theorem sz33 : T.sizeN 33 = 0 := by decide
end Go.Proofs.Ytdchcggllcgokaa.Y

namespace Go.Proofs.Ytdchcggllcgokaa.Y
open Go.RowKit Go.Proofs.Ytdchcggllcgokaa.L Go.Proofs.Ytdchcggllcgokaa.U Go.Proofs.Ytdchcggllcgokaa.R Go.Proofs.Ytdchcggllcgokaa.E Go.Proofs.YtdchcggllcgokaaW.PrintWords
set_option linter.unusedVariables false
set_option linter.unusedSimpArgs false
section
variable {ops : Array Oper} {rest : List Oper} {op : Oper} {a : Act} {w : World} {Q : Exit → Act → World → Prop}
theorem blkffv {b : List Int} (hb : b = ffB) (ho : op.op = .build 50 #[(0, .const (.int .u8 255))]) (hw : Region.wanted op (yielded ops a.tmps) = true)
    (h : wpList Try.prog ops Q rest (a.put op.dst (blk b)) w) : wpList Try.prog ops Q (op :: rest) a w := by
  subst hb; exact blkff ho hw h
theorem blkppv {b : List Int} (hb : b = pB) (ho : op.op = .build 50 #[(0, .const (.int .u8 1)), (1, .const (.int .u8 0)), (2, .const (.int .u8 2)), (3, .const (.int .u8 0))]) (hw : Region.wanted op (yielded ops a.tmps) = true)
    (h : wpList Try.prog ops Q rest (a.put op.dst (blk b)) w) : wpList Try.prog ops Q (op :: rest) a w := by
  subst hb; exact blkpp ho hw h
end
set_option maxRecDepth 100000 in
set_option maxHeartbeats 2000000 in
theorem lives_walk (fb pb : List Int) (HF : Hid (fb = ffB)) (HP : Hid (pb = pB)) (HF64 : Hid (fb.length = 64)) (HP64 : Hid (pb.length = 64))
    (P1 : Hid (∀ (g : Nat) (w : World), Row TC w g (celL ⟨1, 2, fb⟩).toArray → Calls Try.prog 47 #[.slice (some ⟨g, 0, none⟩) 1 1] w fun e w' => (∃ g o c, e = .returned (.tuple #[.slice (some ⟨g, o, none⟩) 2 c, .int .i64 0]) ∧ g < w'.heap.size ∧ Bks w' (some ⟨g, o, none⟩) [pb, fb] ∧ w'.rangeAt g o (nums .u8 pb)) ∧ Below w.heap.size w w'))
    (P2 : Hid (∀ (w : World), Calls Try.prog 47 #[.slice none 0 0] w fun e w' => (∃ A c, e = .returned (.tuple #[.slice A 0 c, .int .i64 2])) ∧ Below w.heap.size w w'))
    (P3 : Hid (∀ (A : Option Addr) (c : Nat) (w : World), Bks w A [pb, fb] → Calls Try.prog 54 #[.slice A 2 c, .int .i64 1] w fun e w' => (∃ g o c, e = .returned (.tuple #[.slice (some ⟨g, o, none⟩) 1 c, .int .i64 0]) ∧ w'.cell? ⟨g, o + 2, none⟩ = some (.int .u8 255) ∧ g < w'.heap.size) ∧ Below w.heap.size w w'))
    (S0 : Hid (∀ w : World, Calls Try.prog 49 #[.int .i64 0] w fun e w' => e = .returned (.int .i64 0) ∧ w = w'))
    (S1 : Hid (∀ w : World, Calls Try.prog 49 #[.int .i64 17] w fun e w' => e = .returned (.int .i64 19) ∧ w = w'))
    (S2 : Hid (∀ w : World, Calls Try.prog 49 #[.int .i64 33] w fun e w' => e = .returned (.int .i64 0) ∧ w = w'))
    (w : World) : Calls Try.prog 53 #[] w fun e w' => e = .returned (.bool true) ∧ Below w.heap.size w w' := by
  have HB := Lib.hid (Below.refl w.heap.size w)
  have tok0 : True := trivial
  have tk1 : True := trivial
  go_enter Try.func53, Try.ntmps53
  go_wp2_with (first
    | (go_skip)
    | (have _t := tok0; refine plcBuild (.const (.int .i64 1)) (.const (.int .i64 2)) rfl (s := 1) (m := 2) rfl rfl rfl ?_; clear _t tok0)
    | (refine blkffv HF.out rfl rfl ?_)
    | (refine celBuildS (.tmp 8) (.tmp 9) rfl (s := 1) (m := 2) (b := fb) rfl rfl HF64.out rfl ?_)
    | (refine celBuild1 (.tmp 10) rfl (c := ⟨1, 2, fb⟩) HF64.out rfl rfl ?_; intro w1 hk hb; replace HB := Lib.hid (below_ext HB.out hb); have K1 := Lib.hid hk; clear hk hb)
    | (have _t := tk1; go_at_call 47; refine (P1.out _ _ K1.out).mono ?_; rintro e w2 ⟨⟨g1, o1, k1, rfl, hg1, h1, hr1⟩, hb⟩; have B1 := Lib.hid h1; have R1 := Lib.hid hr1; have G1 := Lib.hid hg1; replace HB := Lib.hid (below_ext HB.out hb); clear hb h1 hr1 hg1 _t tk1; have tk2 : True := trivial)
    | (have _t := tk2; go_at_call 47; refine (P2.out _).mono ?_; rintro e w3 ⟨⟨A2, k2, rfl⟩, hb⟩; replace B1 := Lib.hid (B1.out.below hb); have HB3 := Lib.hid hb; replace HB := Lib.hid (below_ext HB.out hb); clear hb _t tk2; have tk3 : True := trivial)
    | (go_at_call 54; refine (P3.out _ _ _ B1.out).mono ?_; rintro e w4 ⟨⟨g3, o3, k3, rfl, hc3, hg3⟩, hb⟩; have C3 := Lib.hid hc3; have R4 := Lib.hid (show w4.rangeAt g1 o1 (nums .u8 pb) from fun j v hv => by rw [hb.cell (p := ⟨g1, o1 + j, none⟩) (Nat.lt_of_lt_of_le G1.out HB3.out.size), HB3.out.cell (p := ⟨g1, o1 + j, none⟩) G1.out]; exact R1.out j v hv); replace HB := Lib.hid (below_ext HB.out hb); clear hb hc3 hg3)
    | (refine blkMid (.tmp 35) rfl HP64.out R4.out rfl rfl ?_)
    | (refine blkppv HP.out rfl rfl ?_)
    | (refine F.blkEql (.tmp 36) (.tmp 37) _ rfl rfl rfl HP64.out HP64.out true (by simp) rfl ?_)
    | (refine F.rowCell (v := .int .u8 255) _ (.tmp 53) rfl C3.out rfl R.agg_u8 rfl ?_)
    | (have _t := tk3; go_at_call 49; refine (S0.out _).mono ?_; rintro e w5 ⟨rfl, rfl⟩; clear _t tk3; have tk4 : True := trivial)
    | (have _t := tk4; go_at_call 49; refine (S1.out _).mono ?_; rintro e w6 ⟨rfl, rfl⟩; clear _t tk4; have tk5 : True := trivial)
    | (have _t := tk5; go_at_call 49; refine (S2.out _).mono ?_; rintro e w7 ⟨rfl, rfl⟩; clear _t tk5))
  go_ret
  exact ⟨rfl, HB.out⟩
end Go.Proofs.Ytdchcggllcgokaa.Y

namespace Go.Proofs.Ytdchcggllcgokaa.Y
open Go.RowKit Go.Proofs.Ytdchcggllcgokaa.L Go.Proofs.Ytdchcggllcgokaa.U Go.Proofs.Ytdchcggllcgokaa.R Go.Proofs.Ytdchcggllcgokaa.E Go.Proofs.YtdchcggllcgokaaW.PrintWords
set_option linter.unusedVariables false
set_option linter.unusedSimpArgs false
theorem lives_any (w : World) : Calls Try.prog 53 #[] w fun e w' => e = .returned (.bool true) ∧ Below w.heap.size w w' := by
  refine lives_walk ffB pB (Lib.hid rfl) (Lib.hid rfl) (Lib.hid ffB_length) (Lib.hid pB_length) (Lib.hid fun g w hx => ?_) (Lib.hid fun w => ?_) (Lib.hid fun A c w hx => ?_) (Lib.hid fun w => ?_) (Lib.hid fun w => ?_) (Lib.hid fun w => ?_) w
  · refine (Put_x (some ⟨g, 0, none⟩) 1 [c0] w (Lib.hid (row_cls1 hx ffB_length))).mono ?_
    rintro e w' ⟨⟨A, c, rfl, -, hb⟩, h2⟩
    have e1 : putS [c0] = [pB, ffB] := by rw [putS, if_pos c0_err, c0_sec]
    rw [e1] at hb ⊢
    rw [c0_err]
    obtain ⟨g1, o1, rfl, hg1, hr1, -⟩ := hb.at_ 0 (by decide)
    exact ⟨⟨g1, o1, c, rfl, hg1, hb, by simpa using hr1⟩, h2⟩
  · refine (Put_x none 0 [] w (Lib.hid (Cls.nil _ _))).mono ?_
    rintro e w' ⟨⟨A, c, rfl, -, hb⟩, h2⟩
    have e1 : putS [] = [] := by rw [putS, if_neg (by rw [nil_err]; decide)]
    rw [e1, nil_err]
    exact ⟨⟨A, c, rfl⟩, h2⟩
  · have h8 : ∀ b ∈ [pB, ffB], Wf8 b := by rw [← c0_sec]; exact secL_wf (by decide) (fun c hc => by obtain rfl := List.mem_singleton.1 hc; exact ffB_wf)
    refine (Get_x A c [pB, ffB] h8 1 ⟨by decide, by decide⟩ w hx).mono ?_
    rintro e w' ⟨⟨A, c, rfl, hb⟩, h2⟩
    obtain ⟨q1, q2⟩ := get_put c0_err (fun c hc => by obtain rfl := List.mem_singleton.1 hc; exact ffB_length)
    have q3 : errG [pB, ffB] 1 = 0 := by rw [← c0_sec]; exact q1
    have e1 : getS [pB, ffB] 1 = [c0] := by rw [getS, if_pos q3, ← c0_sec]; exact q2
    rw [e1] at hb ⊢
    rw [q3]
    obtain ⟨g1, o1, rfl, hg1, hr1, -⟩ := hb.at_ 0 (by decide)
    refine ⟨⟨g1, o1, c, rfl, ?_, hg1⟩, h2⟩
    have h3 := hr1 2 (.int .u8 255) rfl
    simpa using h3
  · have h := T.Size_any 0 ⟨by decide, by decide⟩ w; rw [sz0] at h; exact h
  · have h := T.Size_any 17 ⟨by decide, by decide⟩ w; rw [sz17] at h; exact h
  · have h := T.Size_any 33 ⟨by decide, by decide⟩ w; rw [sz33] at h; exact h
theorem blocks_true (X : List (List Int)) (A B : Option Addr) (c d : Nat) (w : World) (hx : Bks w A X) (hy : Bks w B X) : Calls Try.prog 51 #[.slice A X.length c, .slice B X.length d] w fun e w' => e = .returned (.bool true) ∧ Below w.heap.size w w' := by
  refine (Blocks_any A B c d X X w (Lib.hid hx) (Lib.hid hy)).mono ?_
  rintro e w' ⟨⟨b, rfl, hb⟩, h2⟩
  exact ⟨by rw [hb.2 rfl], h2⟩
theorem cells_true (X : List Ce) (A B : Option Addr) (c d : Nat) (w : World) (hx : Cls w A X) (hy : Cls w B X) : Calls Try.prog 52 #[.slice A X.length c, .slice B X.length d] w fun e w' => e = .returned (.bool true) ∧ Below w.heap.size w w' := by
  refine (Cells_any A B c d X X w (Lib.hid hx) (Lib.hid hy)).mono ?_
  rintro e w' ⟨⟨b, rfl, hb⟩, h2⟩
  exact ⟨by rw [hb.2 rfl], h2⟩
set_option maxRecDepth 100000 in
set_option maxHeartbeats 2000000 in
theorem puts_walk (A : Option Addr) (cap : Nat) (l : List Ce) (ni k z : Int) (X : List (List Int))
    (PK : Hid (∀ (w : World), Cls w A l → Calls Try.prog 46 #[.slice A l.length cap] w fun e w' => (∃ A' c', e = .returned (.slice A' l.length c') ∧ Cls w' A' l) ∧ Below w.heap.size w w'))
    (P1 : Hid (∀ (A : Option Addr) (c : Nat) (w : World), Cls w A l → Calls Try.prog 47 #[.slice A l.length c] w fun e w' => (∃ A c, e = .returned (.tuple #[.slice A X.length c, .int .i64 k]) ∧ Bks w' A X) ∧ Below w.heap.size w w'))
    (P2 : Hid (∀ (A : Option Addr) (c : Nat) (w : World), Cls w A l → Calls Try.prog 48 #[.slice A l.length c] w fun e w' => (∃ A c, e = .returned (.tuple #[.slice A X.length c, .int .i64 k]) ∧ Bks w' A X) ∧ Below w.heap.size w w'))
    (S1 : Hid (∀ w : World, Calls Try.prog 49 #[.int .i64 ni] w fun e w' => e = .returned (.int .i64 z) ∧ w = w'))
    (S2 : Hid (∀ w : World, Calls Try.prog 50 #[.int .i64 ni] w fun e w' => e = .returned (.int .i64 z) ∧ w = w'))
    (PB : Hid (∀ (A B : Option Addr) (c d : Nat) (w : World), Bks w A X → Bks w B X → Calls Try.prog 51 #[.slice A X.length c, .slice B X.length d] w fun e w' => e = .returned (.bool true) ∧ Below w.heap.size w w'))
    (PC : Hid (∀ (A B : Option Addr) (c d : Nat) (w : World), Cls w A l → Cls w B l → Calls Try.prog 52 #[.slice A l.length c, .slice B l.length d] w fun e w' => e = .returned (.bool true) ∧ Below w.heap.size w w'))
    (PL : Hid (∀ w : World, Calls Try.prog 53 #[] w fun e w' => e = .returned (.bool true) ∧ Below w.heap.size w w'))
    (w : World) (HL : Hid (Cls w A l)) : Calls Try.prog 8 #[.slice A l.length cap, .int .i64 ni] w fun e w' => e = .returned (.bool true) ∧ Below w.heap.size w w' := by
  have HB := Lib.hid (Below.refl w.heap.size w)
  go_enter Try.func8, Try.ntmps8
  go_wp2_with (first
    | (go_skip)
    | (go_at_call 46; refine (PK.out _ HL.out).mono ?_; rintro e w9 ⟨⟨A1, c1, rfl, h1⟩, hb⟩; replace HL := Lib.hid (HL.out.below hb); replace HB := Lib.hid (below_ext HB.out hb); have C1 := Lib.hid h1; clear h1; clear hb)
    | (go_at_call 47; refine (P1.out _ _ _ C1.out).mono ?_; rintro e w9 ⟨⟨A2, c2, rfl, h2⟩, hb⟩; replace HL := Lib.hid (HL.out.below hb); replace C1 := Lib.hid (C1.out.below hb); replace HB := Lib.hid (below_ext HB.out hb); have B2 := Lib.hid h2; clear h2; clear hb)
    | (go_at_call 48; refine (P2.out _ _ _ HL.out).mono ?_; rintro e w9 ⟨⟨A3, c3, rfl, h3⟩, hb⟩; replace HL := Lib.hid (HL.out.below hb); replace C1 := Lib.hid (C1.out.below hb); replace B2 := Lib.hid (B2.out.below hb); replace HB := Lib.hid (below_ext HB.out hb); have B3 := Lib.hid h3; clear h3; clear hb)
    | (go_at_call 49; refine (S1.out _).mono ?_; rintro e w5 ⟨rfl, rfl⟩)
    | (go_at_call 50; refine (S2.out _).mono ?_; rintro e w5 ⟨rfl, rfl⟩)
    | (go_at_call 51; refine (PB.out _ _ _ _ _ B2.out B3.out).mono ?_; rintro e w9 ⟨rfl, hb⟩; replace HL := Lib.hid (HL.out.below hb); replace C1 := Lib.hid (C1.out.below hb); replace HB := Lib.hid (below_ext HB.out hb); clear hb)
    | (go_at_call 52; refine (PC.out _ _ _ _ _ C1.out HL.out).mono ?_; rintro e w9 ⟨rfl, hb⟩; replace HB := Lib.hid (below_ext HB.out hb); clear hb)
    | (go_at_call 53; refine (PL.out _).mono ?_; rintro e w9 ⟨rfl, hb⟩; replace HB := Lib.hid (below_ext HB.out hb); clear hb))
  go_ret
  exact ⟨rfl, HB.out⟩
theorem puts_row (A : Option Addr) (cap : Nat) (l : List Ce) {w : World} (HA : Cls w A l ∧ ∀ c ∈ l, Wf8 c.b) (y : l.length * 80 ≤ 140737488351232) (n : Int) (wn : (Lit.int .i64 n).wf = true) :
    Calls Try.prog 8 #[.slice A l.length cap, .int .i64 n] w fun e w' => e = .returned (.bool true) ∧ Below w.heap.size w w' := by
  have hn := bounds_i64 wn
  refine puts_walk A cap l n (errC l) (T.sizeN n : Int) (putS l) (Lib.hid fun w hx => ?_) (Lib.hid fun A c w hx => ?_) (Lib.hid fun A c w hx => ?_) (Lib.hid fun w => T.Size_any n hn w) (Lib.hid fun w => T.rSize_any n hn w) (Lib.hid fun A B c d w hx hy => blocks_true _ A B c d w hx hy) (Lib.hid fun A B c d w hx hy => cells_true _ A B c d w hx hy) (Lib.hid lives_any) w (Lib.hid HA.1)
  · refine (CopyCells_any A cap l (by omega) w (Lib.hid hx)).mono ?_
    rintro e w' ⟨⟨A1, c1, rfl, h⟩, hb⟩
    exact ⟨⟨A1, c1, rfl, h.cls⟩, hb⟩
  · refine (Put_x A c l w (Lib.hid hx)).mono ?_
    rintro e w' ⟨⟨A1, c1, rfl, -, h⟩, hb⟩
    exact ⟨⟨A1, c1, rfl, h⟩, hb⟩
  · refine (rPut_x A c l (by omega) w (Lib.hid hx)).mono ?_
    rintro e w' ⟨⟨A1, c1, rfl, -, h⟩, hb⟩
    exact ⟨⟨A1, c1, rfl, h⟩, hb⟩
set_option maxRecDepth 100000 in
set_option maxHeartbeats 2000000 in
theorem gets_walk (A : Option Addr) (cap : Nat) (l : List (List Int)) (ni k s : Int) (X : List Ce)
    (PW : Hid (∀ (w : World), Bks w A l → Calls Try.prog 72 #[.slice A l.length cap] w fun e w' => (∃ g, e = .returned (.slice (some ⟨g, 0, none⟩) l.length (l.length + 2)) ∧ Row TB w' g (nums .u8 (l.flatten ++ sv 2)).toArray ∧ Bks w' (some ⟨g, 0, none⟩) l) ∧ Below w.heap.size w w'))
    (P1 : Hid (∀ (A : Option Addr) (c : Nat) (w : World), Bks w A l → Calls Try.prog 54 #[.slice A l.length c, .int .i64 ni] w fun e w' => (∃ A c, e = .returned (.tuple #[.slice A X.length c, .int .i64 k]) ∧ Cls w' A X) ∧ Below w.heap.size w w'))
    (P2 : Hid (∀ (A : Option Addr) (c : Nat) (w : World), Bks w A l → Calls Try.prog 73 #[.slice A l.length c, .int .i64 ni] w fun e w' => (∃ A c, e = .returned (.tuple #[.slice A X.length c, .int .i64 k]) ∧ Cls w' A X) ∧ Below w.heap.size w w'))
    (M1 : Hid (∀ (A : Option Addr) (c : Nat) (w : World), Bks w A l → Calls Try.prog 74 #[.slice A l.length c] w fun e w' => e = .returned (.int .u32 s) ∧ Below w.heap.size w w'))
    (M2 : Hid (∀ (A : Option Addr) (c : Nat) (w : World), Bks w A l → Calls Try.prog 75 #[.slice A l.length c] w fun e w' => e = .returned (.int .u32 s) ∧ Below w.heap.size w w'))
    (PT : Hid (∀ (g : Nat) (B : Option Addr) (d : Nat) (w : World), Row TB w g (nums .u8 (l.flatten ++ sv 2)).toArray → Bks w (some ⟨g, 0, none⟩) l → Bks w B l → Calls Try.prog 76 #[.slice (some ⟨g, 0, none⟩) l.length (l.length + 2), .slice B l.length d] w fun e w' => e = .returned (.bool true) ∧ Below w.heap.size w w'))
    (PC : Hid (∀ (A B : Option Addr) (c d : Nat) (w : World), Cls w A X → Cls w B X → Calls Try.prog 52 #[.slice A X.length c, .slice B X.length d] w fun e w' => e = .returned (.bool true) ∧ Below w.heap.size w w'))
    (PL : Hid (∀ w : World, Calls Try.prog 53 #[] w fun e w' => e = .returned (.bool true) ∧ Below w.heap.size w w'))
    (w : World) (HL : Hid (Bks w A l)) : Calls Try.prog 17 #[.slice A l.length cap, .int .i64 ni] w fun e w' => e = .returned (.bool true) ∧ Below w.heap.size w w' := by
  have HB := Lib.hid (Below.refl w.heap.size w)
  go_enter Try.func17, Try.ntmps17
  go_wp2_with (first
    | (go_skip)
    | (go_at_call 72; refine (PW.out _ HL.out).mono ?_; rintro e w9 ⟨⟨g, rfl, h1, h2⟩, hb⟩; replace HL := Lib.hid (HL.out.below hb); replace HB := Lib.hid (below_ext HB.out hb); have K1 := Lib.hid h1; have B1 := Lib.hid h2; clear h1 h2; clear hb)
    | (go_at_call 54; refine (P1.out _ _ _ B1.out).mono ?_; rintro e w9 ⟨⟨A2, c2, rfl, h2⟩, hb⟩; replace HL := Lib.hid (HL.out.below hb); replace K1 := Lib.hid (K1.out.below hb); replace B1 := Lib.hid (B1.out.below hb); replace HB := Lib.hid (below_ext HB.out hb); have C2 := Lib.hid h2; clear h2; clear hb)
    | (go_at_call 73; refine (P2.out _ _ _ HL.out).mono ?_; rintro e w9 ⟨⟨A3, c3, rfl, h3⟩, hb⟩; replace HL := Lib.hid (HL.out.below hb); replace K1 := Lib.hid (K1.out.below hb); replace B1 := Lib.hid (B1.out.below hb); replace C2 := Lib.hid (C2.out.below hb); replace HB := Lib.hid (below_ext HB.out hb); have C3 := Lib.hid h3; clear h3; clear hb)
    | (go_at_call 52; refine (PC.out _ _ _ _ _ C2.out C3.out).mono ?_; rintro e w9 ⟨rfl, hb⟩; replace HL := Lib.hid (HL.out.below hb); replace K1 := Lib.hid (K1.out.below hb); replace B1 := Lib.hid (B1.out.below hb); replace HB := Lib.hid (below_ext HB.out hb); clear hb)
    | (go_at_call 74; refine (M1.out _ _ _ B1.out).mono ?_; rintro e w9 ⟨rfl, hb⟩; replace HL := Lib.hid (HL.out.below hb); replace K1 := Lib.hid (K1.out.below hb); replace B1 := Lib.hid (B1.out.below hb); replace HB := Lib.hid (below_ext HB.out hb); clear hb)
    | (go_at_call 75; refine (M2.out _ _ _ HL.out).mono ?_; rintro e w9 ⟨rfl, hb⟩; replace HL := Lib.hid (HL.out.below hb); replace K1 := Lib.hid (K1.out.below hb); replace B1 := Lib.hid (B1.out.below hb); replace HB := Lib.hid (below_ext HB.out hb); clear hb)
    | (go_at_call 76; refine (PT.out _ _ _ _ K1.out B1.out HL.out).mono ?_; rintro e w9 ⟨rfl, hb⟩; replace HB := Lib.hid (below_ext HB.out hb); clear hb)
    | (go_at_call 53; refine (PL.out _).mono ?_; rintro e w9 ⟨rfl, hb⟩; replace HB := Lib.hid (below_ext HB.out hb); clear hb))
  go_ret
  exact ⟨rfl, HB.out⟩
theorem gets_row (A : Option Addr) (cap : Nat) (l : List (List Int)) {w : World} (HA : Bks w A l ∧ ∀ b ∈ l, Wf8 b) (y : l.length * 64 ≤ 140737488351232) (n : Int) (wn : (Lit.int .i64 n).wf = true) :
    Calls Try.prog 17 #[.slice A l.length cap, .int .i64 n] w fun e w' => e = .returned (.bool true) ∧ Below w.heap.size w w' := by
  have hn := bounds_i64 wn
  have h8 := HA.2
  refine gets_walk A cap l n (errG l n) ((sumB l).toNat : Int) (getS l n) (Lib.hid fun w hx => ?_) (Lib.hid fun A c w hx => Get_x A c l h8 n hn w hx) (Lib.hid fun A c w hx => rGet_x A c l h8 n hn w hx) (Lib.hid fun A c w hx => Sum_any A c l h8 w (Lib.hid hx)) (Lib.hid fun A c w hx => rSum_any A c l h8 w (Lib.hid hx)) (Lib.hid fun g B d w hk hx hy => Left_any g B d l y w (Lib.hid hk) (Lib.hid hx) (Lib.hid hy)) (Lib.hid fun A B c d w hx hy => cells_true _ A B c d w hx hy) (Lib.hid lives_any) w (Lib.hid HA.1)
  refine (Wide_any A cap l y w (Lib.hid hx)).mono ?_
  rintro e w' ⟨⟨g, rfl, hk⟩, hb⟩
  refine ⟨⟨g, rfl, hk, row_bks (M := [seven, seven]) ?_ ?_ (by omega)⟩, hb⟩
  · have e1 : (l ++ [seven, seven]).flatten = l.flatten ++ sv 2 := by rw [List.flatten_append]; simp [sv]
    rw [e1]; exact hk
  · intro b hb
    rcases List.mem_append.1 hb with h | h
    · exact hx.1 b h
    · simp at h
      rw [h]; exact seven_length
set_option maxRecDepth 100000 in
set_option maxHeartbeats 2000000 in
theorem same_no (A : Option Addr) (cap : Nat) (l : List (List Int)) (ni k : Int) (hk : (k != 0) = true)
    (P1 : Hid (∀ (A : Option Addr) (c : Nat) (w : World), Bks w A l → Calls Try.prog 54 #[.slice A l.length c, .int .i64 ni] w fun e w' => (∃ A c, e = .returned (.tuple #[.slice A 0 c, .int .i64 k])) ∧ Below w.heap.size w w'))
    (PL : Hid (∀ w : World, Calls Try.prog 53 #[] w fun e w' => e = .returned (.bool true) ∧ Below w.heap.size w w'))
    (w : World) (HL : Hid (Bks w A l)) : Calls Try.prog 18 #[.slice A l.length cap, .int .i64 ni] w fun e w' => e = .returned (.bool true) ∧ Below w.heap.size w w' := by
  have HB := Lib.hid (Below.refl w.heap.size w)
  go_enter Try.func18, Try.ntmps18
  go_wp2_with (first
    | (go_skip)
    | (go_at_call 54; refine (P1.out _ _ _ HL.out).mono ?_; rintro e w9 ⟨⟨A2, c2, rfl⟩, hb⟩; replace HB := Lib.hid (below_ext HB.out hb); clear hb)
    | (go_at_call 53; refine (PL.out _).mono ?_; rintro e w9 ⟨rfl, hb⟩; replace HB := Lib.hid (below_ext HB.out hb); clear hb))
  go_ret
  exact ⟨rfl, HB.out⟩
set_option maxRecDepth 100000 in
set_option maxHeartbeats 2000000 in
theorem same_ok (A : Option Addr) (cap : Nat) (l : List (List Int)) (n : Nat) (s : Int) (X : List Ce) (HX : Hid (X.length = n))
    (P1 : Hid (∀ (A : Option Addr) (c : Nat) (w : World), Bks w A l → Calls Try.prog 54 #[.slice A l.length c, .int .i64 (n : Int)] w fun e w' => (∃ A c, e = .returned (.tuple #[.slice A n c, .int .i64 0]) ∧ Cls w' A X) ∧ Below w.heap.size w w'))
    (P2 : Hid (∀ (A : Option Addr) (c : Nat) (w : World), Cls w A X → Calls Try.prog 47 #[.slice A n c] w fun e w' => (∃ A c, e = .returned (.tuple #[.slice A l.length c, .int .i64 0]) ∧ Bks w' A l) ∧ Below w.heap.size w w'))
    (M1 : Hid (∀ (A : Option Addr) (c : Nat) (w : World), Bks w A l → Calls Try.prog 74 #[.slice A l.length c] w fun e w' => e = .returned (.int .u32 s) ∧ Below w.heap.size w w'))
    (PB : Hid (∀ (A B : Option Addr) (c d : Nat) (w : World), Bks w A l → Bks w B l → Calls Try.prog 51 #[.slice A l.length c, .slice B l.length d] w fun e w' => e = .returned (.bool true) ∧ Below w.heap.size w w'))
    (PL : Hid (∀ w : World, Calls Try.prog 53 #[] w fun e w' => e = .returned (.bool true) ∧ Below w.heap.size w w'))
    (w : World) (HL : Hid (Bks w A l)) : Calls Try.prog 18 #[.slice A l.length cap, .int .i64 (n : Int)] w fun e w' => e = .returned (.bool true) ∧ Below w.heap.size w w' := by
  have HB := Lib.hid (Below.refl w.heap.size w)
  have tk1 : True := trivial
  have tk3 : True := trivial
  go_enter Try.func18, Try.ntmps18
  go_wp2_with (first
    | (go_skip)
    | (go_at_call 54; refine (P1.out _ _ _ HL.out).mono ?_; rintro e w9 ⟨⟨A2, c2, rfl, h2⟩, hb⟩; replace HL := Lib.hid (HL.out.below hb); replace HB := Lib.hid (below_ext HB.out hb); have C2 := Lib.hid h2; clear h2; clear hb)
    | (go_at_call 47; refine (P2.out _ _ _ C2.out).mono ?_; rintro e w9 ⟨⟨A3, c3, rfl, h3⟩, hb⟩; replace HL := Lib.hid (HL.out.below hb); replace HB := Lib.hid (below_ext HB.out hb); have B3 := Lib.hid h3; clear h3; clear hb)
    | (go_at_call 51; refine (PB.out _ _ _ _ _ B3.out HL.out).mono ?_; rintro e w9 ⟨rfl, hb⟩; replace HL := Lib.hid (HL.out.below hb); replace B3 := Lib.hid (B3.out.below hb); replace HB := Lib.hid (below_ext HB.out hb); clear hb)
    | (have _t := tk1; go_at_call 74; refine (M1.out _ _ _ B3.out).mono ?_; rintro e w9 ⟨rfl, hb⟩; replace HL := Lib.hid (HL.out.below hb); replace HB := Lib.hid (below_ext HB.out hb); clear _t tk1; have tk2 : True := trivial; clear hb)
    | (have _t := tk2; go_at_call 74; refine (M1.out _ _ _ HL.out).mono ?_; rintro e w9 ⟨rfl, hb⟩; replace HB := Lib.hid (below_ext HB.out hb); clear _t tk2; clear hb)
    | (go_at_call 53; refine (PL.out _).mono ?_; rintro e w9 ⟨rfl, hb⟩; replace HB := Lib.hid (below_ext HB.out hb); clear hb))
  go_ret
  exact ⟨rfl, HB.out⟩
theorem same_row (A : Option Addr) (cap : Nat) (l : List (List Int)) {w : World} (HA : Bks w A l ∧ ∀ b ∈ l, Wf8 b) (y : l.length * 64 ≤ 140737488351232) (n : Int) (wn : (Lit.int .i64 n).wf = true) :
    Calls Try.prog 18 #[.slice A l.length cap, .int .i64 n] w fun e w' => e = .returned (.bool true) ∧ Below w.heap.size w w' := by
  have hn := bounds_i64 wn
  have h8 := HA.2
  have h64 := HA.1.1
  by_cases hk : errG l n = 0
  · obtain ⟨k, rfl, h1, h2, hl, hok⟩ := errG_ok hk
    obtain ⟨q1, q2⟩ := put_get h8 h64 h1 h2 hl hok
    have e1 : getS l (k : Int) = celG l k := by rw [getS, if_pos hk, Int.toNat_natCast]
    have hlen := celG_length l k
    refine same_ok A cap l k ((sumB l).toNat : Int) (celG l k) (Lib.hid hlen) (Lib.hid fun A c w hx => ?_) (Lib.hid fun A c w hx => ?_) (Lib.hid fun A c w hx => Sum_any A c l h8 w (Lib.hid hx)) (Lib.hid fun A B c d w hx hy => blocks_true _ A B c d w hx hy) (Lib.hid lives_any) w (Lib.hid HA.1)
    · refine (Get_x A c l h8 (k : Int) hn w hx).mono ?_
      rintro e w' ⟨⟨A1, c1, rfl, h⟩, hb⟩
      rw [e1] at h ⊢
      rw [hlen, hk]
      exact ⟨⟨A1, c1, rfl, h⟩, hb⟩
    · have h := Put_x A c (celG l k) w (Lib.hid hx)
      rw [hlen] at h
      refine h.mono ?_
      rintro e w' ⟨⟨A1, c1, rfl, -, h⟩, hb⟩
      have e2 : putS (celG l k) = l := by rw [putS, if_pos q1, q2]
      rw [e2] at h ⊢
      rw [q1]
      exact ⟨⟨A1, c1, rfl, h⟩, hb⟩
  · refine same_no A cap l n (errG l n) (by simpa using hk) (Lib.hid fun A c w hx => ?_) (Lib.hid lives_any) w (Lib.hid HA.1)
    refine (Get_x A c l h8 n hn w hx).mono ?_
    rintro e w' ⟨⟨A1, c1, rfl, h⟩, hb⟩
    have e1 : getS l n = [] := if_neg hk
    rw [e1]
    exact ⟨⟨A1, c1, rfl⟩, hb⟩
end Go.Proofs.Ytdchcggllcgokaa.Y

namespace Go.Proofs.Ytdchcggllcgokaa.Y
open Go.RowKit Go.Proofs.Ytdchcggllcgokaa.L Go.Proofs.Ytdchcggllcgokaa.U Go.Proofs.Ytdchcggllcgokaa.R Go.Proofs.Ytdchcggllcgokaa.E Go.Proofs.YtdchcggllcgokaaW.PrintWords
set_option linter.unusedVariables false
set_option linter.unusedSimpArgs false
theorem cells_int1 : Try.prog.cellsOf 3 = 1 := by kernel_rfl
theorem cells_u81 : Try.prog.cellsOf 5 = 1 := by kernel_rfl
theorem cells_blk64 : Try.prog.cellsOf 50 = 64 := by kernel_rfl
theorem cells_plc2 : Try.prog.cellsOf 125 = 2 := by kernel_rfl
theorem cells_cel66 : Try.prog.cellsOf 127 = 66 := by kernel_rfl
section
variable {H : Type} {enc : TypeId × Value → H} {w : World} {fuel : Nat}
theorem blk_of {cs : List Value} {x : DataW H × List MemPlace} (h : DataW.trod enc Try.prog w 0 (fun _ => true) true fuel 50 cs = some x) : ∃ b : List Int, cs = nums .u8 b ∧ b.length = 64 ∧ Wf8 b := by
  obtain ⟨xs, m, -, -, hl, hn, hx⟩ := DataW.trod_array Try.underlying50 h
  rw [cells_blk64] at hl
  have key : ∀ i, i < 64 → ∃ n : Int, cs[i]? = some (.int .u8 n) ∧ (Lit.int .u8 n).wf = true := fun i hi => by
    have h1 := hx i hi
    rw [cells_u81, Nat.mul_one, List.getElem?_eq_getElem (by omega)] at h1
    obtain ⟨n, h2, -, h3⟩ := DataW.trod_int Try.underlying5 h1
    refine ⟨n, ?_, h3⟩
    have h4 := congrArg (·[0]?) h2
    simpa [List.getElem?_take, List.getElem?_drop] using h4
  obtain ⟨f, hf⟩ := Go.Deep.choose_lt key
  refine ⟨(List.range 64).map f, ?_, by simp, fun x hx => ?_⟩
  · refine List.ext_getElem? fun i => ?_
    rcases Nat.lt_or_ge i 64 with hi | hi
    · rw [(hf i hi).1]; simp [nums, hi]
    · rw [List.getElem?_eq_none (by omega), List.getElem?_eq_none (by simp [nums]; omega)]
  · obtain ⟨i, hi, rfl⟩ := List.mem_map.1 hx
    exact (hf i (List.mem_range.1 hi)).2
theorem cel_of {cs : List Value} {x : DataW H × List MemPlace} (h : DataW.trod enc Try.prog w 0 (fun _ => true) true fuel 127 cs = some x) : ∃ c : Ce, cs = celL c ∧ (c.b.length = 64 ∧ Wf8 c.b ∧ (Lit.int .i64 c.s).wf = true ∧ (Lit.int .i64 c.m).wf = true) := by
  obtain ⟨y0, y1, n, -, hl, h0, h1⟩ := Go.ChangeShapes.trod_struct2 Try.underlying127 h
  simp only [cells_plc2, cells_blk64] at h0 h1
  rw [cells_cel66] at hl
  obtain ⟨b, hb, hb64, hb8⟩ := blk_of h1
  obtain ⟨z0, z1, m, -, hl2, g0, g1⟩ := Go.ChangeShapes.trod_struct2 Try.underlying125 h0
  simp only [cells_int1] at g0 g1
  obtain ⟨s, e0, -, s3⟩ := DataW.trod_int Try.underlying3 g0
  obtain ⟨k, e1, -, k3⟩ := DataW.trod_int Try.underlying3 g1
  refine ⟨⟨s, k, b⟩, ?_, hb64, hb8, s3, k3⟩
  have f0 := congrArg (·[0]?) e0
  have f1 := congrArg (·[0]?) e1
  simp [List.getElem?_take, List.getElem?_drop] at f0 f1
  match cs, hl with
  | u :: v :: r, hl =>
    simp at f0 f1 hb
    rw [f0, f1, celL, ← hb, List.take_of_length_le (by simp at hl; omega)]
theorem open_els {P : Program} {t e : TypeId} (ht : P.underlying t = some (.slice e)) {k : Nat} (hk : 0 < k) (hc : P.cellsOf e = k) {α : Type} [Inhabited α] (f : α → List Value) (G : α → Prop)
    (hel : ∀ n cs y, DataW.trod enc P w 0 (fun _ => true) true n e cs = some y → ∃ p, cs = f p ∧ G p) {a : Option Addr} {len cap : Nat} {x : DataW H × List MemPlace}
    (h : DataW.trod enc P w 0 (fun _ => true) true fuel t [.slice a len cap] = some x) : ∃ l : List α, len = l.length ∧ (∀ p ∈ l, G p) ∧ Els k w a (l.map f) ∧ (len = 0 ∨ ∃ el sp, x.1 = .slice el sp ∧ el.length = len) := by
  rcases Go.Deep.open_slice ht h with ⟨hcs, hx⟩ | ⟨a', len', cap', m, n, D, Pl, hcs, hb, hl, hm, hmm, hx, hall⟩
  · simp at hcs
    obtain ⟨rfl, rfl, rfl⟩ := hcs
    exact ⟨[], rfl, fun p hp => by simp at hp, ⟨by simp, fun h0 => absurd h0 (by simp)⟩, .inl rfl⟩
  · simp at hcs
    obtain ⟨rfl, rfl, rfl⟩ := hcs
    rw [if_pos rfl] at hmm
    subst hmm
    rw [hc] at hall
    have key : ∀ i, i < len → ∃ p : α, G p ∧ (f p).length = k ∧ (a'.add (i * k)).block < w.heap.size ∧ ∀ j v, (f p)[j]? = some v → w.cell? ((a'.add (i * k)).add j) = some v := fun i hi => by
      obtain ⟨cs, hcs, ht⟩ := hall i (by omega)
      obtain ⟨p, rfl, hG⟩ := hel _ _ _ ht
      obtain ⟨-, hlen, hg⟩ := World.cells?_some hcs
      refine ⟨p, hG, hlen, World.cells?_block hcs hk, fun j v hv => ?_⟩
      have hj : j < k := by have := (List.getElem?_eq_some_iff.1 hv).1; omega
      rw [hg j hj]; exact hv
    obtain ⟨q, hq⟩ := Go.Deep.choose_lt key
    have h9 : maxLen ≤ 9223372036854775807 := by decide
    refine ⟨(List.range len).map q, by simp, fun p hp => ?_, ⟨by simp; omega, fun h0 => ?_⟩, .inr ⟨_, _, by rw [hx], by simp⟩⟩
    · obtain ⟨i, hi, rfl⟩ := List.mem_map.1 hp
      exact (hq i (List.mem_range.1 hi)).1
    · have hl0 : 0 < len := by simpa using h0
      obtain ⟨b, o, sp⟩ := a'
      have hsp : sp = none := by
        obtain ⟨-, h2, -, h4⟩ := hq 0 hl0
        have h1 := World.cell?_spot (h4 0 _ (List.getElem?_eq_getElem (by omega)))
        simpa [Addr.add] using h1
      subst hsp
      refine ⟨b, o, rfl, ?_, fun j v hv i u hu => ?_⟩
      · have h1 := (hq 0 hl0).2.2.1
        rw [Addr.add_mid] at h1; exact h1
      · have hj : j < len := by have := (List.getElem?_eq_some_iff.1 hv).1; simpa using this
        have he : f (q j) = v := by
          simpa [hj] using hv
        subst he
        have h1 := (hq j hj).2.2.2 i u hu
        rw [Addr.add_mid, Addr.add_mid] at h1
        exact h1
instance : Inhabited Ce := ⟨⟨0, 0, []⟩⟩
theorem open_blocks {a : Option Addr} {len cap : Nat} {x : DataW H × List MemPlace} (h : DataW.trod enc Try.prog w 0 (fun _ => true) true fuel 42 [.slice a len cap] = some x) :
    ∃ l : List (List Int), len = l.length ∧ (Bks w a l ∧ (∀ b ∈ l, Wf8 b)) ∧ (len = 0 ∨ ∃ el sp, x.1 = .slice el sp ∧ el.length = len) := by
  obtain ⟨l, h1, h2, h3, h4⟩ := open_els Try.underlying42 (by decide) cells_blk64 (nums .u8) (fun b => b.length = 64 ∧ Wf8 b) (fun n cs y hy => blk_of hy) h
  exact ⟨l, h1, ⟨⟨fun b hb => (h2 b hb).1, h3⟩, fun b hb => (h2 b hb).2⟩, h4⟩
theorem open_cells {a : Option Addr} {len cap : Nat} {x : DataW H × List MemPlace} (h : DataW.trod enc Try.prog w 0 (fun _ => true) true fuel 40 [.slice a len cap] = some x) :
    ∃ l : List Ce, len = l.length ∧ (Cls w a l ∧ (∀ c ∈ l, Wf8 c.b)) ∧ (len = 0 ∨ ∃ el sp, x.1 = .slice el sp ∧ el.length = len) := by
  obtain ⟨l, h1, h2, h3, h4⟩ := open_els Try.underlying40 (by decide) cells_cel66 celL (fun c => c.b.length = 64 ∧ Wf8 c.b ∧ (Lit.int .i64 c.s).wf = true ∧ (Lit.int .i64 c.m).wf = true) (fun n cs y hy => cel_of hy) h
  exact ⟨l, h1, ⟨⟨fun b hb => (h2 b hb).1, h3⟩, fun b hb => (h2 b hb).2.1⟩, h4⟩
theorem bytes_blk64 : Try.prog.bytesOf 50 = 64 := by kernel_rfl
theorem bytes_cel80 : Try.prog.bytesOf 127 = 80 := by kernel_rfl
theorem blk_bound {ts : List TypeId} {ds : List (DataW H)} (hsz : (DataW.weightsEach Try.prog ts ds).all (· ≤ reachBytes) = true) {j : Nat} {d : DataW H} {len : Nat} (ht : ts[j]? = some 42) (hd : ds[j]? = some d) (h : len = 0 ∨ ∃ el sp, d = .slice el sp ∧ el.length = len) : len * 64 ≤ 140737488351232 := by
  rcases h with h0 | ⟨el, sp, rfl, hl⟩
  · subst h0; decide
  · have h1 := sized_slice hsz ht hd Try.underlying42
    rw [bytes_blk64] at h1
    have h2 : reachBytes = 140737488351232 := by decide
    rw [h2, hl, Nat.add_mul] at h1
    omega
theorem cel_bound {ts : List TypeId} {ds : List (DataW H)} (hsz : (DataW.weightsEach Try.prog ts ds).all (· ≤ reachBytes) = true) {j : Nat} {d : DataW H} {len : Nat} (ht : ts[j]? = some 40) (hd : ds[j]? = some d) (h : len = 0 ∨ ∃ el sp, d = .slice el sp ∧ el.length = len) : len * 80 ≤ 140737488351232 := by
  rcases h with h0 | ⟨el, sp, rfl, hl⟩
  · subst h0; decide
  · have h1 := sized_slice hsz ht hd Try.underlying40
    rw [bytes_cel80] at h1
    have h2 : reachBytes = 140737488351232 := by decide
    rw [h2, hl, Nat.add_mul] at h1
    omega
end
end Go.Proofs.Ytdchcggllcgokaa.Y
