/-
  ashlarref11.sectors: a row of bytes as sectors. ashlarref11.Put: the walk.
-/
import Derived.Test.YtdchcggllcgokaaCeA
namespace Go.Proofs.Ytdchcggllcgokaa.Y
open Go.RowKit Go.Proofs.Ytdchcggllcgokaa.L Go.Proofs.Ytdchcggllcgokaa.U Go.Proofs.Ytdchcggllcgokaa.R Go.Proofs.Ytdchcggllcgokaa.E Go.Proofs.YtdchcggllcgokaaW.PrintWords
set_option linter.unusedVariables false
set_option linter.unusedSimpArgs false
/-- sixty-four bytes of a row from i on, so many of them laid -/
def mkB (row : List Int) (i k : Nat) : List Int := (row.drop i).take k ++ Z (64 - k)
theorem mkB_length {row : List Int} {i k : Nat} (hk : k ≤ 64) (h : i + k ≤ row.length) : (mkB row i k).length = 64 := by
  rw [mkB, List.length_append, List.length_take, List.length_drop, Z_length]; omega
theorem mkB_zero (row : List Int) (i : Nat) : mkB row i 0 = zeros := by
  rw [mkB, List.take_zero, List.nil_append]; rfl
theorem mkB_next {row : List Int} {i k : Nat} (hk : k < 64) (h : i + k < row.length) : (mkB row i k).set k (rd row ((i + k : Nat) : Int)) = mkB row i (k + 1) := by
  have h1 : ((row.drop i).take k).length = k := by rw [List.length_take, List.length_drop]; omega
  obtain ⟨d, hd⟩ : ∃ d, 64 - k = 1 + d := ⟨63 - k, by omega⟩
  have h2 : rd row ((i + k : Nat) : Int) = row[i + k] := by rw [rd, Int.toNat_natCast, List.getD_eq_getElem?_getD, List.getElem?_eq_getElem h, Option.getD_some]
  have h3 : (row.drop i).take (k + 1) = (row.drop i).take k ++ [row[i + k]] := by
    rw [List.take_succ_eq_append_getElem (by rw [List.length_drop]; omega), List.getElem_drop]
  rw [mkB, mkB, hd, Z_add, h3, h2, show 64 - (k + 1) = d by omega]
  have h4 : (row.drop i).take k ++ (Z 1 ++ Z d) = (row.drop i).take k ++ (0 : Int) :: Z d := by simp [Z]
  rw [h4, set_mid _ _ _ _ k h1]
  simp
def blkAt (row : List Int) (j : Nat) : List Int := (row.drop (64 * j)).take 64 ++ Z (64 - (row.length - 64 * j))
theorem blkAt_length (row : List Int) (j : Nat) : (blkAt row j).length = 64 := by
  rw [blkAt, List.length_append, List.length_take, List.length_drop, Z_length]; omega
theorem mkB_full {row : List Int} {j : Nat} (h : 64 * j + 64 ≤ row.length) : mkB row (64 * j) 64 = blkAt row j := by
  rw [mkB, blkAt, show 64 - (row.length - 64 * j) = 64 - 64 by omega]
theorem mkB_end {row : List Int} {j k : Nat} (hk : k ≤ 64) (h : 64 * j + k = row.length) : mkB row (64 * j) k = blkAt row j := by
  rw [mkB, blkAt, List.take_of_length_le (by rw [List.length_drop]; omega), List.take_of_length_le (by rw [List.length_drop]; omega), show row.length - 64 * j = k by omega]
def secN (n : Nat) : Nat := (n + 63) / 64
def secF (row : List Int) (j : Nat) : List Int := ((List.range j).map (blkAt row)).flatten
theorem secF_next (row : List Int) (j : Nat) : secF row (j + 1) = secF row j ++ blkAt row j := by
  rw [secF, secF, List.range_succ, List.map_append, List.flatten_append]; simp
theorem els_one {W : World} {g : Nat} {b : List Int} (h : Row TB W g (nums .u8 b).toArray) : Els 64 W (some ⟨g, 0, none⟩) [nums .u8 b] := by
  refine ⟨by simp, fun _ => ⟨g, 0, rfl, h.lt, fun j v hv i u hu => ?_⟩⟩
  have hj : j = 0 := by have := (List.getElem?_eq_some_iff.1 hv).1; simp at this; omega
  subst hj
  simp at hv
  subst hv
  rw [show 0 + 0 * 64 + i = i by omega]
  exact h.cell (by rw [List.getElem?_toArray]; exact hu)
set_option maxRecDepth 100000 in
set_option maxHeartbeats 4000000 in
theorem sectors_any (A : Option Addr) (cap : Nat) (row : List Int) (hn : row.length ≤ 4096) (w : World) (HR : Hid (ReadsInt w .u8 A row.length row)) :
    Calls Try.prog 120 #[.slice A row.length cap] w fun e w' => (∃ A' c', e = .returned (.slice A' (secN row.length) c') ∧ w'.ownsRow w.heap.size TB 64 (.slice A' (secN row.length) c') (secN row.length) (nums .u8 (secF row (secN row.length)))) ∧ Below w.heap.size w w' := by
  have HB := Lib.hid (Below.refl w.heap.size w)
  have HO := Lib.hid (World.ownsRow_nil w w.heap.size TB 64)
  go_enter Try.func120, Try.ntmps120
  go_wp2
  go_loopw [3, 4] (fun xv iv wr => ∃ (x : Value) (j i : Nat), x = xv ∧ Hid (i = 64 * j) ∧ i < row.length + 64 ∧ iv = .int .i64 (i : Int) ∧ Hid (wr.ownsRow w.heap.size TB 64 x j (nums .u8 (secF row j))) ∧ Hid (Below w.heap.size w wr)) (fun _ iv _ => row.length + 64 - (intOf iv).toNat)
  case atStart => exact ⟨_, 0, 0, rfl, Lib.hid rfl, by omega, rfl, HO, HB⟩
  case round =>
    clear HO HB
    obtain ⟨x, j, i, rfl, HI, hi, rfl, HO, HB⟩ := hrel
    have hi0 : (0 : Int) ≤ (i : Int) := by omega
    have lbh := HB.out.size
    by_cases hlt : i < row.length
    · have tok0 : True := trivial
      have HNe : Hid (∀ k, x.ownBlock = some k → k < wr.heap.size) := Lib.hid fun k hk => (HO.out.lt k hk).2
      go_wp2_with (first
        | (go_skip)
        | (have _t := tok0; refine F.blkAlloc rfl rfl ?_; intro w1 hk hb hz1; replace HO := Lib.hid (pw_own_below HO.out hb); replace HB := Lib.hid (below_ext HB.out hb); have K5 := Lib.hid hk; clear hk hb _t tok0))
      obtain ⟨G, hG⟩ : ∃ G, G = wr.heap.size := ⟨_, rfl⟩
      rw [← hG] at K5 HNe hz1 lbh ⊢
      clear hG
      replace K5 := Lib.hid (show Blk w1 G (mkB row i 0) by rw [mkB_zero]; exact K5.out)
      go_loopw [6] (fun kv wr => ∃ k : Nat, k ≤ 64 ∧ i + k ≤ row.length ∧ kv = .int .i64 (k : Int) ∧ Hid (Blk wr G (mkB row i k)) ∧ Hid (wr.ownsRow w.heap.size TB 64 x j (nums .u8 (secF row j))) ∧ Hid (Below w.heap.size w wr)) (fun kv _ => 64 - (intOf kv).toNat)
      case atStart => exact ⟨0, by decide, by omega, rfl, K5, HO, HB⟩
      case round =>
        clear K5 HO HB
        obtain ⟨k, hk64, hik, rfl, K5, HO, HB⟩ := hrel
        have hk0 : (0 : Int) ≤ (k : Int) := by omega
        have lg := K5.out.lt
        by_cases hk : k < 64
        · by_cases hin : i + k < row.length
          · have d1 : decide ((i : Int) + (k : Int) < (row.length : Int)) = true := by simp; omega
            obtain ⟨ax, rfl, cx⟩ := (HR.out.below HB.out).at_ ((i : Int) + (k : Int)) (by omega) (by omega)
            rw [show (i : Int) + (k : Int) = ((i + k : Nat) : Int) by omega] at cx
            simp only [Int.toNat_natCast] at cx
            have HN := Lib.hid (show (mkB row i k).set k (rd row ((i : Int) + (k : Int))) = mkB row i (k + 1) by have h := mkB_next hk hin; rw [show ((i + k : Nat) : Int) = (i : Int) + (k : Int) by omega] at h; exact h)
            go_wp2_with (first
              | (go_skip)
              | (refine F.blkSet (.tmp 32) (.tmp 31) rfl K5.out k hk rfl _ rfl rfl ?_; intro w2 hk2 hg; rw [HN.out] at hk2; replace HO := Lib.hid (own_other HO.out hg (by cases hx : x.ownBlock with | none => exact .inl rfl | some q => exact .inr (fun e => by injection e with e; have := HNe.out q hx; omega))); replace HB := Lib.hid (below_at HB.out hg (by omega) K5.out.lt); replace K5 := Lib.hid hk2; clear hk2 hg))
            go_roundw
            case rel =>
              first
                | exact ⟨k + 1, by omega, by omega, by go_num, K5, HO, HB⟩
                | exact ⟨k + 1, by omega, by omega, by go_num, K5⟩
            case measure => simp [intOf]; omega
          · have d1 : decide ((i : Int) + (k : Int) < (row.length : Int)) = false := by simp; omega
            have hend : i + k = row.length := by omega
            have HE := Lib.hid (show mkB row i k = blkAt row j by have h := HI.out; have h2 : 64 * j + k = row.length := (by omega); rw [h]; exact mkB_end hk64 h2)
            have HBl := Lib.hid (mkB_length hk64 hik)
            have hbs := HB.out.size
            go_wp2_with (first
              | (go_skip)
              | (refine F.blkLoad (.tmp 5) rfl K5.out rfl rfl ?_)
              | (refine blkBuild1 (.tmp 34) rfl HBl.out rfl rfl ?_; intro w3 hk2 hb hz3; replace HO := Lib.hid (pw_own_below HO.out hb); replace HB := Lib.hid (below_ext HB.out hb); have K9 := Lib.hid hk2; clear hk2 hb)
              | (at_builtin; refine append_els (w0 := w) w.heap.size rfl (.tmp 33) (.tmp 35) 42 TB zeroBlkV 64 64 rfl Try.underlying42 infoB zsB (by decide) (by decide) x j (nums .u8 (secF row j)) [nums .u8 (mkB row i k)] _ 1 1 rfl rfl rfl HO.out (els_one K9.out) (fun v hv => by obtain rfl := List.mem_singleton.1 hv; rw [nums_length, HBl.out]) (fun u hu => one_nums (mkB row i k) u (by simpa using hu)) HB.out (by omega) (by have := HI.out; simp; omega) ?_; intro v1 w4 ho4 hb4 hg4 hat4))
            go_roundw
            case rel =>
              have e4 : nums .u8 (secF row (j + 1)) = nums .u8 (secF row j) ++ nums .u8 (mkB row i k) := by rw [secF_next, ← HE.out]; simp [nums]
              have HO4 : Hid (w4.ownsRow w.heap.size TB 64 v1 (j + 1) (nums .u8 (secF row (j + 1)))) := Lib.hid (by rw [e4]; simpa using ho4)
              exact ⟨v1, j + 1, i + 64, rfl, Lib.hid (by have := HI.out; omega), by omega, by go_num, HO4, Lib.hid hb4⟩
            case measure => simp [intOf]; omega
        · have hk2 : k = 64 := by omega
          subst hk2
          have HE := Lib.hid (show mkB row i 64 = blkAt row j by have h := HI.out; have h2 : 64 * j + 64 ≤ row.length := (by omega); rw [h]; exact mkB_full h2)
          have HBl := Lib.hid (mkB_length hk64 hik)
          have hbs := HB.out.size
          go_wp2_with (first
            | (go_skip)
            | (refine F.blkLoad (.tmp 5) rfl K5.out rfl rfl ?_)
            | (refine blkBuild1 (.tmp 34) rfl HBl.out rfl rfl ?_; intro w3 hk2 hb hz3; replace HO := Lib.hid (pw_own_below HO.out hb); replace HB := Lib.hid (below_ext HB.out hb); have K9 := Lib.hid hk2; clear hk2 hb)
            | (at_builtin; refine append_els (w0 := w) w.heap.size rfl (.tmp 33) (.tmp 35) 42 TB zeroBlkV 64 64 rfl Try.underlying42 infoB zsB (by decide) (by decide) x j (nums .u8 (secF row j)) [nums .u8 (mkB row i 64)] _ 1 1 rfl rfl rfl HO.out (els_one K9.out) (fun v hv => by obtain rfl := List.mem_singleton.1 hv; rw [nums_length, HBl.out]) (fun u hu => one_nums (mkB row i 64) u (by simpa using hu)) HB.out (by omega) (by have := HI.out; simp; omega) ?_; intro v1 w4 ho4 hb4 hg4 hat4))
          go_roundw
          case rel =>
            have e4 : nums .u8 (secF row (j + 1)) = nums .u8 (secF row j) ++ nums .u8 (mkB row i 64) := by rw [secF_next, ← HE.out]; simp [nums]
            have HO4 : Hid (w4.ownsRow w.heap.size TB 64 v1 (j + 1) (nums .u8 (secF row (j + 1)))) := Lib.hid (by rw [e4]; simpa using ho4)
            exact ⟨v1, j + 1, i + 64, rfl, Lib.hid (by have := HI.out; omega), by omega, by go_num, HO4, Lib.hid hb4⟩
          case measure => simp [intOf]; omega
    · have hj : j = secN row.length := by have := HI.out; rw [secN]; omega
      have HJ := Lib.hid hj
      clear hj
      obtain ⟨A', c', rfl⟩ := own_slice HO.out
      go_wp2
      go_ret
      exact ⟨⟨A', c', by rw [← HJ.out]; rfl, by rw [← HJ.out]; exact HO.out⟩, HB.out⟩
end Go.Proofs.Ytdchcggllcgokaa.Y

namespace Go.Proofs.Ytdchcggllcgokaa.Y
open Go.RowKit Go.Proofs.Ytdchcggllcgokaa.L Go.Proofs.Ytdchcggllcgokaa.U Go.Proofs.Ytdchcggllcgokaa.R Go.Proofs.Ytdchcggllcgokaa.E Go.Proofs.YtdchcggllcgokaaW.PrintWords
set_option linter.unusedVariables false
set_option linter.unusedSimpArgs false
theorem secF_is (row : List Int) : ∀ j : Nat, secF row j = row.take (64 * j) ++ Z (64 * j - row.length)
  | 0 => by simp [secF, Z]
  | j + 1 => by
    rw [secF_next, secF_is row j, blkAt]
    rcases Nat.lt_or_ge row.length (64 * j) with h | h
    · have e1 : row.take (64 * j) = row := List.take_of_length_le (by omega)
      have e2 : row.take (64 * (j + 1)) = row := List.take_of_length_le (by omega)
      have e3 : row.drop (64 * j) = [] := List.drop_of_length_le (by omega)
      rw [e1, e2, e3, List.take_nil, List.nil_append, List.append_assoc, ← Z_add]
      congr 2; omega
    · have e0 : row.take (64 * (j + 1)) = row.take (64 * j) ++ (row.drop (64 * j)).take 64 := (List.take_add (i := 64 * j) (j := 64) (l := row)).symm ▸ rfl
      rw [e0, show 64 * j - row.length = 0 by omega, show 64 * (j + 1) - row.length = 64 - (row.length - 64 * j) by omega]
      simp [Z]
theorem rec_flat (l : List Ce) : secF (rowP l) (hdN l.length) ++ rowB l = FLq l l.length := by
  have h1 : 4 * l.length ≤ 64 * hdN l.length := by rw [hdN]; omega
  have e1 : (rowP l).take (64 * hdN l.length) = rowP l := List.take_of_length_le (by rw [rowP_length]; omega)
  rw [secF_is, FLq, e1, rowP_length, List.take_length, Nat.sub_self]
  simp [Z]
theorem secN_hd (n : Nat) : secN (4 * n) = hdN n := by rw [secN, hdN]; omega
theorem infoU8 : (Try.prog.info? 5).map (fun i => (i.zero, i.size, i.bytes)) = some (some (.int .u8 0), 1, 1) := by kernel_rfl
theorem putb_small {s : Nat} (h : s < 64) : putb s 2 = [(s : Int), 0] := by
  simp [putb, byt, List.range_succ]; omega
section
variable {ops : Array Oper} {rest : List Oper} {op : Oper} {a : Act} {w : World} {Q : Exit → Act → World → Prop}
/-- the place of a cell of a slice -/
theorem plcMid (x : Operand) (ho : op.op = .load 125 x) {g o : Nat} {s m : Int} {b : List Int} (hr : w.rangeAt g o (celL ⟨s, m, b⟩)) (hx : a.eval x = .pointer (some ⟨g, o, none⟩)) (hw : Region.wanted op (yielded ops a.tmps) = true)
    (h : wpList Try.prog ops Q rest (a.put op.dst (.agg (plL s m).toArray)) w) : wpList Try.prog ops Q (op :: rest) a w := by
  refine val_step ?_ hw h
  have hr2 : w.rangeAt g o (plL s m) := fun j v hv => by
    have hj : j < 2 := (List.getElem?_eq_some_iff.1 hv).1
    refine hr j v ?_
    match j, hj with
    | 0, _ => exact hv
    | 1, _ => exact hv
  unfold execOp
  simp only [ho, hx, Instr.loadAt, Instr.sureAddr, Sem.run_bind, Sem.run_map, Sem.run_pure, Result.andThen_ok, run_loadVar_mid w g o 125 _ _ hr2 Try.underlying125 rfl (info_pl s m)]
end
theorem cel_blk {W : World} {g o : Nat} {s m : Int} {b : List Int} (h : W.rangeAt g o (celL ⟨s, m, b⟩)) : W.rangeAt g (o + 2) (nums .u8 b) := fun j v hv => by
  have h2 := h (j + 2) v (by rw [celL]; exact hv)
  rw [show o + 2 + j = o + (j + 2) by omega]
  exact h2
/-- what ashlarref11.Put returns -/
def rPutR (l : List Ce) (b : Nat) (e : Ending) (W : World) : Prop := (errC l ≠ 0 ∧ e = .returned (.tuple #[.slice none 0 0, .int .i64 (errC l)])) ∨ (errC l = 0 ∧ ∃ A c, e = .returned (.tuple #[.slice A (hdN l.length + l.length) c, .int .i64 0]) ∧ W.ownsRow b TB 64 (.slice A (hdN l.length + l.length) c) (hdN l.length + l.length) (nums .u8 (FLq l l.length)))
set_option maxRecDepth 100000 in
set_option maxHeartbeats 4000000 in
theorem rPut_any (A : Option Addr) (cap : Nat) (l : List Ce) (hl9 : l.length * 80 ≤ 140737488355328) (w : World) (HL : Hid (Cls w A l)) : Calls Try.prog 48 #[.slice A l.length cap] w fun e w' => rPutR l w.heap.size e w' ∧ Below w.heap.size w w' := by
  have hcap := HL.out.cap
  have HB := Lib.hid (Below.refl w.heap.size w)
  by_cases h0 : l.length = 0
  · have f1 : (l.length == 0) = true := by rw [h0]; rfl
    have f2 : ((l.length : Int) == 0) = true := by rw [h0]; rfl
    have hE := Lib.hid (show errC l = 2 from if_pos (.inl h0))
    clear h0
    go_enter Try.func48, Try.ntmps48
    go_wp2
    go_ret2
    exact ⟨.inl ⟨by rw [hE.out]; decide, by rw [hE.out]; rfl⟩, HB.out⟩
  have f1 : (l.length == 0) = false := by rw [beq_eq_false_iff_ne]; exact h0
  have f2 : ((l.length : Int) == 0) = false := by rw [beq_eq_false_iff_ne]; omega
  have h1 : 0 < l.length := by omega
  have HO := Lib.hid (World.ownsRow_nil w w.heap.size 5 1)
  clear h0
  go_enter Try.func48, Try.ntmps48
  go_wp2
  go_loopw [4, 5] (fun xv iv wr => ∃ (x : Value) (q : Nat), x = xv ∧ q ≤ l.length ∧ iv = .int .i64 (q : Int) ∧ Hid (∀ j (h : j < q) (hj : j < l.length), mayP l[j].s l[j].m = true) ∧ Hid (wr.ownsRow w.heap.size 5 1 x (4 * q) (nums .u8 (rowP (l.take q)))) ∧ Hid (Below w.heap.size w wr)) (fun _ iv _ => l.length - (intOf iv).toNat)
  case atStart => exact ⟨_, 0, rfl, Nat.zero_le _, rfl, Lib.hid (fun j h => absurd h (by omega)), HO, HB⟩
  case round =>
    clear HB HO
    obtain ⟨x, q, rfl, hq, rfl, HA, HO, HB⟩ := hrel
    have hi0 : (0 : Int) ≤ (q : Int) := by omega
    have lbh := HB.out.size
    by_cases hlt : q < l.length
    · obtain ⟨g, o, rfl, hg, HR, hb⟩ := (HL.out.below HB.out).at_ q hlt
      obtain ⟨z, hz⟩ : ∃ z, mayP l[q].s l[q].m = z := ⟨_, rfl⟩
      have HZ := Lib.hid hz
      have eP : rowP (l.take (q + 1)) = rowP (l.take q) ++ place4 l[q] := by
        rw [rowP, rowP, List.take_succ_eq_append_getElem hlt, List.map_append, List.flatten_append]; simp
      obtain ⟨c, hc⟩ : ∃ c, c = l[q] := ⟨_, rfl⟩
      rw [← hc] at HR hb hz eP
      obtain ⟨cs, cm, cb⟩ := c
      clear hc
      simp only at hz hb
      have HR := Lib.hid HR
      have EP := Lib.hid eP
      have PM := Lib.hid (fun w => rmay_any cs cm w)
      rw [hz] at PM
      clear hb eP
      have tok0 : True := trivial
      cases z with
      | false =>
        clear hz
        have hE := Lib.hid (show errC l = 2 from if_pos (.inr (by
          cases hm : mayL l with
          | false => rfl
          | true => exact absurd (mayL_at hm hlt) (by rw [HZ.out]; decide))))
        go_wp2_with (first
          | (go_skip)
          | (refine plcMid (.tmp 21) rfl HR.out rfl rfl ?_)
          | (have _t := tok0; refine F.rowAlloc 125 rfl _ zero_pl rfl ?_; intro w1 hk hb hz1; replace HB := Lib.hid (below_ext HB.out hb); have K6 := Lib.hid hk; clear hk hb _t tok0)
          | (refine F.rowStore (cs := (plL cs cm).toArray) 125 (.tmp 6) (.tmp 22) rfl K6.out rfl rfl (info_pl _ _) rfl (one_pl _ _) rfl ?_; intro w2 hk hg2; replace HB := Lib.hid (below_at HB.out hg2 (by omega) K6.out.lt); replace K6 := Lib.hid hk; clear hk hg2)
          | (refine F.rowLoad 125 (.tmp 6) rfl K6.out rfl Try.underlying125 rfl (info_pl _ _) rfl ?_)
          | (go_at_call 119; refine (PM.out _).mono ?_; rintro e w3 ⟨rfl, hb⟩; replace HB := Lib.hid (below_ext HB.out hb); clear hb))
        go_ret2
        exact ⟨.inl ⟨by rw [hE.out]; decide, by rw [hE.out]; rfl⟩, HB.out⟩
      | true =>
        obtain ⟨sn, mn, e1, e2, s64, m16⟩ := mayP_nat hz
        subst e1 e2
        clear hz
        have e3 : (sn : Int).tmod 256 = (sn : Int) := by rw [Int.tmod_eq_emod_of_nonneg (by omega)]; omega
        have e4 : (sn : Int).tdiv 256 = 0 := by rw [Int.tdiv_eq_ediv_of_nonneg (by omega)]; omega
        have E5 := Lib.hid (show place4 ⟨(sn : Int), (mn : Int), cb⟩ = [(sn : Int), 0, (mn : Int), 0] by rw [place4]; simp only [Int.toNat_natCast]; rw [putb_small s64]; rfl)
        go_wp2_with (first
          | (go_skip)
          | (refine plcMid (.tmp 21) rfl HR.out rfl rfl ?_)
          | (have _t := tok0; refine F.rowAlloc 125 rfl _ zero_pl rfl ?_; intro w1 hk hb hz1; replace HO := Lib.hid (pw_own_below HO.out hb); replace HB := Lib.hid (below_ext HB.out hb); have K6 := Lib.hid hk; clear hk hb _t tok0)
          | (refine F.rowStore (cs := (plL (sn : Int) (mn : Int)).toArray) 125 (.tmp 6) (.tmp 22) rfl K6.out rfl rfl (info_pl _ _) rfl (one_pl _ _) rfl ?_; intro w2 hk hg2; replace HO := Lib.hid (own_other HO.out hg2 (.inr (Ne.symm (own_ne HO.out K6.out (by decide))))); replace HB := Lib.hid (below_at HB.out hg2 (by omega) K6.out.lt); replace K6 := Lib.hid hk; clear hk hg2)
          | (refine F.rowLoad 125 (.tmp 6) rfl K6.out rfl Try.underlying125 rfl (info_pl _ _) rfl ?_)
          | (go_at_call 119; refine (PM.out _).mono ?_; rintro e w3 ⟨rfl, hb⟩; replace HO := Lib.hid (pw_own_below HO.out hb); replace K6 := Lib.hid (K6.out.below hb); replace HB := Lib.hid (below_ext HB.out hb); clear hb)
          | (refine F.rowCell (v := .int .i64 (sn : Int)) _ (.tmp 27) rfl (K6.out.cell (o := 0) rfl) rfl agg_int rfl ?_)
          | (refine F.rowCell (v := .int .i64 (sn : Int)) _ (.tmp 31) rfl (K6.out.cell (o := 0) rfl) rfl agg_int rfl ?_)
          | (refine F.rowCell (v := .int .i64 (mn : Int)) _ (.tmp 35) rfl (K6.out.cell (o := 1) rfl) rfl agg_int rfl ?_)
          | (at_builtin; refine print_append_row (w0 := w) w.heap.size rfl (.tmp 26) (.tmp 38) 22 5 .u8 1 rfl Try.underlying22 infoU8 (by decide) x (rowP (l.take q)) [(sn : Int), 0, (mn : Int), 0] _ 4 4 rfl rfl (by rw [rowP_length, take_len hq]; exact HO.out.alloc _) (lit_reads _ [(sn : Int), 0, (mn : Int), 0] (by simp)) (HB.out.alloc HB.out.size _) (by have h := HB.out.size; simp; omega) (by rw [rowP_length, take_len hq]; omega) ?_; intro v1 w5 ho5 hb5 hg5 hat5))
        go_roundw
        case rel =>
          have HA2 : Hid (∀ j (h : j < q + 1) (hj : j < l.length), mayP l[j].s l[j].m = true) := Lib.hid fun j h hj => by
            rcases Nat.lt_or_ge j q with h3 | h3
            · exact HA.out j h3 hj
            · obtain rfl : j = q := by omega
              exact HZ.out
          have hO := ho5
          rw [← E5.out, ← EP.out, rowP_length, take_len (by omega : q + 1 ≤ l.length)] at hO
          exact ⟨v1, q + 1, rfl, by omega, by go_num, HA2, Lib.hid hO, Lib.hid hb5⟩
        case measure => simp [intOf]; omega
    · obtain rfl : q = l.length := by omega
      have hm : mayL l = true := mayL_of fun j hj => HA.out j (by omega) hj
      have HM := Lib.hid hm
      clear hm HA
      by_cases h32 : 32 < l.length
      · have g1 : decide (32 < l.length) = true := by simpa using h32
        have g2 : decide ((32 : Int) < (l.length : Int)) = true := by simp; omega
        have hE := Lib.hid (show errC l = 3 by rw [errC, if_neg (fun h => by rcases h with h | h; omega; rw [HM.out] at h; exact absurd h (by decide)), if_pos h32])
        go_wp2
        go_ret2
        exact ⟨.inl ⟨by rw [hE.out]; decide, by rw [hE.out]; rfl⟩, HB.out⟩
      have g1 : decide (32 < l.length) = false := by simpa using h32
      have g2 : decide ((32 : Int) < (l.length : Int)) = false := by simp; omega
      have hE := Lib.hid (show errC l = 0 by rw [errC, if_neg (fun h => by rcases h with h | h; omega; rw [HM.out] at h; exact absurd h (by decide)), if_neg h32])
      have hO := HO.out
      rw [List.take_length] at hO
      obtain ⟨A4, c4, rfl⟩ := own_slice hO
      have R4 := Lib.hid (own_reads' hO)
      have hrl : (rowP l).length = 4 * l.length := rowP_length l
      have PS : Hid (∀ w : World, ReadsInt w .u8 A4 (4 * l.length) (rowP l) → Calls Try.prog 120 #[.slice A4 (4 * l.length) c4] w fun e w' => (∃ A' c', e = .returned (.slice A' (hdN l.length) c') ∧ w'.ownsRow w.heap.size TB 64 (.slice A' (hdN l.length) c') (hdN l.length) (nums .u8 (secF (rowP l) (hdN l.length)))) ∧ Below w.heap.size w w') := Lib.hid fun w hr => by
        have h := sectors_any A4 c4 (rowP l) (by omega) w (Lib.hid (by rw [hrl]; exact hr))
        rw [hrl, secN_hd] at h
        exact h
      clear hO HO hrl
      go_wp2_with (first
        | (go_skip)
        | (go_at_call 120; refine (PS.out _ R4.out).mono ?_; rintro e w3 ⟨⟨A5, c5, rfl, hO5⟩, hb5⟩; replace hO5 := own_lower (base' := w.heap.size) hO5 HB.out.size; replace HB := Lib.hid (below_ext HB.out hb5); clear hb5))
      have eZ : rowB (l.take 0) = [] := by simp [rowB]
      go_loopw [7, 8] (fun xv iv wr => ∃ (x : Value) (q : Nat), x = xv ∧ q ≤ l.length ∧ iv = .int .i64 (q : Int) ∧ Hid (wr.ownsRow w.heap.size TB 64 x (hdN l.length + q) (nums .u8 (secF (rowP l) (hdN l.length) ++ rowB (l.take q)))) ∧ Hid (Below w.heap.size w wr)) (fun _ iv _ => l.length - (intOf iv).toNat)
      case atStart => exact ⟨_, 0, rfl, Nat.zero_le _, rfl, Lib.hid (by rw [eZ, List.append_nil]; exact hO5), HB⟩
      case round =>
        clear HB hO5 eZ
        obtain ⟨x, q, rfl, hq, rfl, HO, HB⟩ := hrel
        have hi0 : (0 : Int) ≤ (q : Int) := by omega
        have lbh := HB.out.size
        have h32n : l.length ≤ 32 := by omega
        have hd2 : hdN l.length ≤ 2 := by rw [hdN]; omega
        by_cases hlt : q < l.length
        · obtain ⟨g, o, rfl, hg, HR, hb⟩ := (HL.out.below HB.out).at_ q hlt
          have eB : rowB (l.take (q + 1)) = rowB (l.take q) ++ l[q].b := by
            rw [rowB, rowB, List.take_succ_eq_append_getElem hlt, List.map_append, List.flatten_append]; simp
          have HRb := Lib.hid (cel_blk HR)
          have HBl := Lib.hid hb
          have EB := Lib.hid eB
          clear HR hb eB
          generalize l[q].b = b at HRb HBl EB
          go_wp2_with (first
            | (go_skip)
            | (refine blkMid (.tmp 55) rfl HBl.out HRb.out rfl rfl ?_)
            | (refine blkBuild1 (.tmp 56) rfl HBl.out rfl rfl ?_; intro w3 hk2 hb hz3; replace HO := Lib.hid (pw_own_below HO.out hb); replace HB := Lib.hid (below_ext HB.out hb); have K9 := Lib.hid hk2; clear hk2 hb)
            | (at_builtin; refine append_els (w0 := w) w.heap.size rfl (.tmp 51) (.tmp 57) 42 TB zeroBlkV 64 64 rfl Try.underlying42 infoB zsB (by decide) (by decide) x (hdN l.length + q) (nums .u8 (secF (rowP l) (hdN l.length) ++ rowB (l.take q))) [nums .u8 b] _ 1 1 rfl rfl rfl HO.out (els_one K9.out) (fun v hv => by obtain rfl := List.mem_singleton.1 hv; rw [nums_length, HBl.out]) (fun u hu => one_nums b u (by simpa using hu)) HB.out (by omega) (by simp; omega) ?_; intro v1 w4 ho4 hb4 hg4 hat4))
          go_roundw
          case rel =>
            have e4 : nums .u8 (secF (rowP l) (hdN l.length) ++ rowB (l.take (q + 1))) = nums .u8 (secF (rowP l) (hdN l.length) ++ rowB (l.take q)) ++ nums .u8 b := by rw [EB.out]; simp [nums]
            have HO4 : Hid (w4.ownsRow w.heap.size TB 64 v1 (hdN l.length + (q + 1)) (nums .u8 (secF (rowP l) (hdN l.length) ++ rowB (l.take (q + 1))))) := Lib.hid (by rw [e4]; simpa [Nat.add_assoc] using ho4)
            exact ⟨v1, q + 1, rfl, by omega, by go_num, HO4, Lib.hid hb4⟩
          case measure => simp [intOf]; omega
        · obtain rfl : q = l.length := by omega
          have hO := HO.out
          rw [List.take_length, rec_flat] at hO
          obtain ⟨A6, c6, rfl⟩ := own_slice hO
          replace HO := Lib.hid hO
          clear hO
          go_wp2
          go_ret2
          exact ⟨.inr ⟨hE.out, A6, c6, by rfl, HO.out⟩, HB.out⟩
end Go.Proofs.Ytdchcggllcgokaa.Y
