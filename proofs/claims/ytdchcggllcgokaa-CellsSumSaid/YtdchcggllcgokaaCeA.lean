/-
  Elements of slices: blocks, cells. ashlarref00.Blocks, Cells; copies of blocks and cells. Blocks and cells of a call's own; copies. May a place be; a call's own sectors: made, laid in, appended to. cells.Put: a record's bytes; the walk. cells.read: the walk.
-/
import Derived.Test.YtdchcggllcgokaaSealLaw1
import Derived.Test.YtdchcggllcgokaaNumLaw2
import Derived.Test.YtdchcggllcgokaaCell0
import Derived.Test.YtdchcggllcgokaaFast
import Derived.Test.YtdchcggllcgokaaQuiet
import Derived.Deep.MidRow
import Derived.Test.YtdchcggllcgokaaWEqStruct
import Derived.Deep.DeepAppendWide
import Derived.Great.BuildSlice
import Derived.Deep.RegionHeld3
namespace Go.Proofs.Ytdchcggllcgokaa.Y
open Go.RowKit Go.Proofs.Ytdchcggllcgokaa.L Go.Proofs.Ytdchcggllcgokaa.U Go.Proofs.Ytdchcggllcgokaa.R Go.Proofs.Ytdchcggllcgokaa.E Go.Proofs.YtdchcggllcgokaaW.PrintWords
set_option linter.unusedVariables false
set_option linter.unusedSimpArgs false
/-- elements of k cells each, of a slice that came from anywhere -/
def Els (k : Nat) (W : World) (A : Option Addr) (l : List (List Value)) : Prop := l.length ≤ 9223372036854775807 ∧ (0 < l.length → ∃ g o, A = some ⟨g, o, none⟩ ∧ g < W.heap.size ∧ ∀ (j : Nat) v, l[j]? = some v → W.rangeAt g (o + j * k) v)
theorem Els.below {k : Nat} {W W1 : World} {A : Option Addr} {l : List (List Value)} (h : Els k W A l) (hb : Below W.heap.size W W1) : Els k W1 A l :=
  ⟨h.1, fun h0 => by
    obtain ⟨g, o, e, hlt, hr⟩ := h.2 h0
    refine ⟨g, o, e, Nat.lt_of_lt_of_le hlt hb.size, fun j p hp i v hv => ?_⟩
    rw [hb.cell (p := ⟨g, o + j * k + i, none⟩) hlt]
    exact hr j p hp i v hv⟩
theorem Els.at_ {k : Nat} {W : World} {A : Option Addr} {l : List (List Value)} (h : Els k W A l) {q : Nat} {v : List Value} (hv : l[q]? = some v) : ∃ g o, A = some ⟨g, o, none⟩ ∧ g < W.heap.size ∧ W.rangeAt g (o + q * k) v := by
  have hq : q < l.length := (List.getElem?_eq_some_iff.1 hv).1
  obtain ⟨g, o, e, hlt, hr⟩ := h.2 (by omega)
  exact ⟨g, o, e, hlt, hr q v hv⟩
/-- blocks -/
def Bks (W : World) (A : Option Addr) (l : List (List Int)) : Prop := (∀ b ∈ l, b.length = 64) ∧ Els 64 W A (l.map (nums .u8))
theorem Bks.below {W W1 : World} {A : Option Addr} {l : List (List Int)} (h : Bks W A l) (hb : Below W.heap.size W W1) : Bks W1 A l := ⟨h.1, h.2.below hb⟩
theorem Bks.cap {W : World} {A : Option Addr} {l : List (List Int)} (h : Bks W A l) : l.length ≤ 9223372036854775807 := by have h2 := h.2.1; rwa [List.length_map] at h2
theorem Bks.at_ {W : World} {A : Option Addr} {l : List (List Int)} (h : Bks W A l) (q : Nat) (hq : q < l.length) : ∃ g o, A = some ⟨g, o, none⟩ ∧ g < W.heap.size ∧ W.rangeAt g (o + q * 64) (nums .u8 l[q]) ∧ l[q].length = 64 := by
  obtain ⟨g, o, e, hlt, hr⟩ := h.2.at_ (q := q) (v := nums .u8 l[q]) (by rw [List.getElem?_map, List.getElem?_eq_getElem hq]; rfl)
  exact ⟨g, o, e, hlt, hr, h.1 _ (List.getElem_mem hq)⟩
theorem rng_reads {W : World} {g o : Nat} {b : List Int} (h : W.rangeAt g o (nums .u8 b)) (hm : b.length ≤ 9223372036854775807) : ReadsInt W .u8 (some ⟨g, o, none⟩) b.length b :=
  ⟨rfl, hm, fun _ => ⟨_, rfl, fun j hj => by
    rw [Addr.add_mid]
    refine h j _ ?_
    simp [nums, List.getElem?_eq_getElem hj, List.getD_eq_getElem?_getD]⟩⟩
theorem info_blk64 {b : List Int} (h : b.length = 64) : (Try.prog.info? 50).map (·.size) = some (nums .u8 b).length := by
  rw [nums_length, h]; kernel_rfl
section
variable {ops : Array Oper} {rest : List Oper} {op : Oper} {a : Act} {w : World} {Q : Exit → Act → World → Prop}
theorem val_step {v : Value} (hr : (execOp a.eval op).run Try.prog w = .ok (.value v) w) (hw : Region.wanted op (yielded ops a.tmps) = true) (h : wpList Try.prog ops Q rest (a.put op.dst v) w) : wpList Try.prog ops Q (op :: rest) a w := by
  refine wanted_step hw fun K hK => ?_
  unfold Oper.wp
  rw [hr]
  exact hK _ _ h
theorem run_blkMid (x : Operand) (ho : op.op = .load 50 x) {g o : Nat} {b : List Int} (hl : b.length = 64) (hr : w.rangeAt g o (nums .u8 b)) (hx : a.eval x = .pointer (some ⟨g, o, none⟩)) : (execOp a.eval op).run Try.prog w = .ok (.value (blk b)) w := by
  unfold execOp
  simp only [ho, hx, Instr.loadAt, Instr.sureAddr, Sem.run_bind, Sem.run_map, Sem.run_pure, Result.andThen_ok, run_loadVar_mid w g o 50 _ _ hr Try.underlying50 rfl (info_blk64 hl)]
  rfl
/-- a block of a slice is loaded -/
theorem blkMid (x : Operand) (ho : op.op = .load 50 x) {g o : Nat} {b : List Int} (hl : b.length = 64) (hr : w.rangeAt g o (nums .u8 b)) (hx : a.eval x = .pointer (some ⟨g, o, none⟩)) (hw : Region.wanted op (yielded ops a.tmps) = true)
    (h : wpList Try.prog ops Q rest (a.put op.dst (blk b)) w) : wpList Try.prog ops Q (op :: rest) a w :=
  val_step (run_blkMid x ho hl hr hx) hw h
/-- a block of a slice, as a slice -/
theorem blkAll (x : Operand) (ho : op.op = .slice 50 x none none none) {g o : Nat} (hx : a.eval x = .pointer (some ⟨g, o, none⟩)) (hw : Region.wanted op (yielded ops a.tmps) = true)
    (h : wpList Try.prog ops Q rest (a.put op.dst (.slice (some ⟨g, o, none⟩) 64 64)) w) : wpList Try.prog ops Q (op :: rest) a w := by
  refine val_step ?_ hw h
  have hrun : (Instr.sliceAt 50 (.pointer (some ⟨g, o, none⟩)) none none none).run Try.prog w = .ok (.slice (some ⟨g, o, none⟩) 64 64) w := by
    have h3 : Try.prog.arrayLen 50 = 64 := by kernel_rfl
    have h1 := run_sliceAt_array_all (P := Try.prog) w 50 ⟨g, o, none⟩ (by kernel_rfl)
    rw [h1]
    have h2 : (sizeOf (Try.prog.elem 50)).run Try.prog w = .ok 1 w := by kernel_rfl
    rw [h2, h3]
    simp only [Result.andThen_ok, slicedAt, Nat.mul_one, Addr.add_mid]
    rfl
  unfold execOp
  simp only [ho, hx, Option.map_none, hrun, Sem.run_bind, Sem.run_map, Sem.run_pure, Result.andThen_ok]
end
/-- the sum of blocks -/
def sumB (l : List (List Int)) : BitVec 32 := C.more 0#32 (l.flatten.map fun x => BitVec.ofInt 8 x)
theorem sumB_next {l : List (List Int)} {q : Nat} (hq : q < l.length) : sumB (l.take (q + 1)) = C.more (sumB (l.take q)) (l[q].map fun x => BitVec.ofInt 8 x) := by
  rw [sumB, sumB, List.take_succ_eq_append_getElem hq, List.flatten_append, List.map_append, C.more_append]
  simp
theorem sum_nil : ((sumB []).toNat : Int) = 0 := by decide +kernel
theorem more_b (s : BitVec 32) (A : Option Addr) (cap : Nat) (xs : List Int) (hw : Wf8 xs) (hl : xs.length = 64) (w : World) (hr : ReadsInt w .u8 A 64 xs) :
    Calls Try.prog 129 #[.int .u32 (s.toNat : Int), .slice A 64 cap] w fun e w' => e = .returned (.int .u32 ((C.more s (xs.map fun x => BitVec.ofInt 8 x)).toNat : Int)) ∧ Below w.heap.size w w' := by
  obtain ⟨bs, rfl⟩ := C.by8_of xs hw
  rw [by8_back]
  have hb : bs.length = 64 := by rwa [C.by8_length] at hl
  have h := C.More_any s A cap bs w (by rw [hb]; exact hr) (by omega)
  rw [hb] at h
  exact h
theorem rmore_b (s : BitVec 32) (A : Option Addr) (cap : Nat) (xs : List Int) (hw : Wf8 xs) (hl : xs.length = 64) (w : World) (hr : ReadsInt w .u8 A 64 xs) :
    Calls Try.prog 130 #[.int .u32 (s.toNat : Int), .slice A 64 cap] w fun e w' => e = .returned (.int .u32 ((C.more s (xs.map fun x => BitVec.ofInt 8 x)).toNat : Int)) ∧ Below w.heap.size w w' := by
  obtain ⟨bs, rfl⟩ := C.by8_of xs hw
  rw [by8_back]
  have hb : bs.length = 64 := by rwa [C.by8_length] at hl
  have h := C.rMore_any s A cap bs w (by rw [hb]; exact hr) (by omega)
  rw [hb] at h
  refine h.mono ?_
  rintro e w' ⟨h1, h2⟩
  first
    | exact ⟨h1, h2⟩
    | exact ⟨h1, drew_below h2⟩
    | exact ⟨h1, h2 ▸ Below.refl _ _⟩
set_option maxRecDepth 100000 in
set_option maxHeartbeats 1000000 in
theorem Sum_any (A : Option Addr) (cap : Nat) (l : List (List Int)) (hw8 : ∀ b ∈ l, Wf8 b) (w : World) (HL : Hid (Bks w A l)) : Calls Try.prog 74 #[.slice A l.length cap] w fun e w' => e = .returned (.int .u32 ((sumB l).toNat : Int)) ∧ Below w.heap.size w w' := by
  have hcap := HL.out.cap
  have HW := Lib.hid hw8
  clear hw8
  go_enter Try.func74, Try.ntmps74
  go_wp2
  go_loopw [3, 8] (fun x i wr => ∃ q : Nat, q ≤ l.length ∧ i = .int .i64 (q : Int) ∧ x = .int .u32 ((sumB (l.take q)).toNat : Int) ∧ Hid (Below w.heap.size w wr)) (fun _ i _ => l.length - (intOf i).toNat)
  case atStart => exact ⟨0, Nat.zero_le _, rfl, by rw [List.take_zero, sum_nil], Lib.hid (Below.refl _ _)⟩
  case round =>
    obtain ⟨q, hq, rfl, rfl, HB⟩ := hrel
    obtain ⟨s, hs⟩ : ∃ s, s = sumB (l.take q) := ⟨_, rfl⟩
    rw [← hs]
    have hsl := s.isLt
    have lbh := HB.out.size
    by_cases hlt : q < l.length
    · obtain ⟨g, o, rfl, hg, HR, hb⟩ := (HL.out.below HB.out).at_ q hlt
      have HN := Lib.hid (sumB_next hlt)
      rw [← hs] at HN
      have H8 := Lib.hid (HW.out _ (List.getElem_mem hlt))
      clear hs
      generalize l[q] = b at HR hb HN H8
      replace HR := Lib.hid HR
      have HBl := Lib.hid hb
      clear hb
      have tok0 : True := trivial
      go_wp2_with (first
        | (go_skip)
        | (refine blkMid (.tmp 10) rfl HBl.out HR.out rfl rfl ?_)
        | (have _t := tok0; refine F.blkAlloc rfl rfl ?_; intro w1 hk hb hz1; replace HB := Lib.hid (below_ext HB.out hb); have K5 := Lib.hid hk; clear hk hb _t tok0)
        | (refine F.blkStore (.tmp 5) (.tmp 11) rfl K5.out rfl rfl HBl.out rfl ?_; intro w2 hk hg; have lz := HB.out.size; replace HB := Lib.hid (below_at HB.out hg (by omega) K5.out.lt); replace K5 := Lib.hid hk; clear hk hg lz)
        | (refine blkAll (.tmp 5) rfl rfl rfl ?_)
        | (go_at_call 129; refine (more_b s _ _ b H8.out HBl.out _ (by have h := K5.out.all; rw [HBl.out] at h; exact h)).mono ?_; rintro e w3 ⟨rfl, hb⟩; replace HB := Lib.hid (below_ext HB.out hb); clear hb))
      go_roundw
      case rel => exact ⟨q + 1, by omega, by go_num, by rw [HN.out], HB⟩
      case measure => simp [intOf]; omega
    · have e1 := Lib.hid (show sumB l = s by rw [hs, List.take_of_length_le (by omega)])
      clear hs
      go_wp2
      go_ret
      exact ⟨by rw [e1.out]; rfl, HB.out⟩
set_option maxRecDepth 100000 in
set_option maxHeartbeats 1000000 in
theorem rSum_any (A : Option Addr) (cap : Nat) (l : List (List Int)) (hw8 : ∀ b ∈ l, Wf8 b) (w : World) (HL : Hid (Bks w A l)) : Calls Try.prog 75 #[.slice A l.length cap] w fun e w' => e = .returned (.int .u32 ((sumB l).toNat : Int)) ∧ Below w.heap.size w w' := by
  have hcap := HL.out.cap
  have HW := Lib.hid hw8
  clear hw8
  go_enter Try.func75, Try.ntmps75
  go_wp2
  go_loopw [3, 4] (fun x i wr => ∃ q : Nat, q ≤ l.length ∧ i = .int .i64 (q : Int) ∧ x = .int .u32 ((sumB (l.take q)).toNat : Int) ∧ Hid (Below w.heap.size w wr)) (fun _ i _ => l.length - (intOf i).toNat)
  case atStart => exact ⟨0, Nat.zero_le _, rfl, by rw [List.take_zero, sum_nil], Lib.hid (Below.refl _ _)⟩
  case round =>
    obtain ⟨q, hq, rfl, rfl, HB⟩ := hrel
    obtain ⟨s, hs⟩ : ∃ s, s = sumB (l.take q) := ⟨_, rfl⟩
    rw [← hs]
    have hsl := s.isLt
    have lbh := HB.out.size
    by_cases hlt : q < l.length
    · obtain ⟨g, o, rfl, hg, HR, hb⟩ := (HL.out.below HB.out).at_ q hlt
      have HN := Lib.hid (sumB_next hlt)
      rw [← hs] at HN
      have H8 := Lib.hid (HW.out _ (List.getElem_mem hlt))
      clear hs
      generalize l[q] = b at HR hb HN H8
      have HR := Lib.hid (rng_reads HR (by omega))
      have HBl := Lib.hid hb
      clear hb
      go_wp2_with (first
        | (go_skip)
        | (refine blkAll (.tmp 14) rfl rfl rfl ?_)
        | (go_at_call 130; refine (rmore_b s _ _ b H8.out HBl.out _ (by have h := HR.out; rw [HBl.out] at h; exact h)).mono ?_; rintro e w3 ⟨rfl, hb⟩; replace HB := Lib.hid (below_ext HB.out hb); clear hb))
      go_roundw
      case rel => exact ⟨q + 1, by omega, by go_num, by rw [HN.out], HB⟩
      case measure => simp [intOf]; omega
    · have e1 := Lib.hid (show sumB l = s by rw [hs, List.take_of_length_le (by omega)])
      clear hs
      go_wp2
      go_ret
      exact ⟨by rw [e1.out]; rfl, HB.out⟩
end Go.Proofs.Ytdchcggllcgokaa.Y

namespace Go.Proofs.Ytdchcggllcgokaa.Y
open Go.RowKit Go.Proofs.Ytdchcggllcgokaa.L Go.Proofs.Ytdchcggllcgokaa.U Go.Proofs.Ytdchcggllcgokaa.R Go.Proofs.Ytdchcggllcgokaa.E Go.Proofs.YtdchcggllcgokaaW.PrintWords
set_option linter.unusedVariables false
set_option linter.unusedSimpArgs false
/-! ### cells -/
structure Ce where
  s : Int
  m : Int
  b : List Int
def celL (c : Ce) : List Value := .int .i64 c.s :: .int .i64 c.m :: nums .u8 c.b
def cel (c : Ce) : Value := .agg (celL c).toArray
theorem celL_length {c : Ce} (h : c.b.length = 64) : (celL c).length = 66 := by rw [celL, List.length_cons, List.length_cons, nums_length, h]
def Cls (W : World) (A : Option Addr) (l : List Ce) : Prop := (∀ c ∈ l, c.b.length = 64) ∧ Els 66 W A (l.map celL)
theorem Cls.below {W W1 : World} {A : Option Addr} {l : List Ce} (h : Cls W A l) (hb : Below W.heap.size W W1) : Cls W1 A l := ⟨h.1, h.2.below hb⟩
theorem Cls.cap {W : World} {A : Option Addr} {l : List Ce} (h : Cls W A l) : l.length ≤ 9223372036854775807 := by have h2 := h.2.1; rwa [List.length_map] at h2
theorem Cls.at_ {W : World} {A : Option Addr} {l : List Ce} (h : Cls W A l) (q : Nat) (hq : q < l.length) : ∃ g o, A = some ⟨g, o, none⟩ ∧ g < W.heap.size ∧ W.rangeAt g (o + q * 66) (celL l[q]) ∧ l[q].b.length = 64 := by
  obtain ⟨g, o, e, hlt, hr⟩ := h.2.at_ (q := q) (v := celL l[q]) (by rw [List.getElem?_map, List.getElem?_eq_getElem hq]; rfl)
  exact ⟨g, o, e, hlt, hr, h.1 _ (List.getElem_mem hq)⟩
theorem info_cel66 {c : Ce} (h : c.b.length = 64) : (Try.prog.info? 127).map (·.size) = some (celL c).length := by
  rw [celL_length h]; kernel_rfl
theorem part_plain {P : Program} {t : TypeId} (hag : ∀ w : World, (isAgg t).run P w = .ok false w) {cs : Array Value} {o : Nat} {v : Value} (h : cs[o]? = some v) (w : World) : (part t cs o).run P w = .ok v w := by
  simp [part, hag, h]
theorem part_agg {P : Program} {t : TypeId} {n : Nat} (hag : ∀ w : World, (isAgg t).run P w = .ok true w) (hsz : ∀ w : World, (sizeOf t).run P w = .ok n w) {cs ds : Array Value} {o : Nat} (h : cs.extract o (o + n) = ds) (w : World) : (part t cs o).run P w = .ok (.agg ds) w := by
  simp [part, hag, hsz, h]
theorem agg_int (w : World) : (isAgg 3).run Try.prog w = .ok false w := by kernel_rfl
theorem agg_place (w : World) : (isAgg 125).run Try.prog w = .ok true w := by kernel_rfl
theorem agg_blk (w : World) : (isAgg 50).run Try.prog w = .ok true w := by kernel_rfl
theorem size_place (w : World) : (sizeOf 125).run Try.prog w = .ok 2 w := by kernel_rfl
theorem size_blk (w : World) : (sizeOf 50).run Try.prog w = .ok 64 w := by kernel_rfl
theorem run_eqp (d : Nat) (w : World) (s m s' m' : Int) : (Op.equalIn (d + 2) 125 (.agg #[.int .i64 s, .int .i64 m]) (.agg #[.int .i64 s', .int .i64 m'])).run Try.prog w = .ok (s == s' && m == m') w := by
  refine eqA_of Try.underlying125 (by kernel_rfl) ?_
  refine eqf_cons rfl (part_plain agg_int rfl w) (part_plain agg_int rfl w) (run_equalIn_int w _ _ _ .i64 _ _ Try.underlying3) ?_
  exact eqf_last rfl (part_plain agg_int rfl w) (part_plain agg_int rfl w) (run_equalIn_int w _ _ _ .i64 _ _ Try.underlying3)
def eqC (x y : Ce) : Bool := (x.s == y.s && x.m == y.m) && decide (x.b = y.b)
theorem eqC_iff (x y : Ce) : eqC x y = true ↔ x = y := by
  obtain ⟨s, m, b⟩ := x
  obtain ⟨s', m', b'⟩ := y
  simp [eqC, and_assoc]
theorem ex_place (c : Ce) : (celL c).toArray.extract 0 (0 + 2) = #[.int .i64 c.s, .int .i64 c.m] := by simp [celL]
theorem ex_b {c : Ce} (h : c.b.length = 64) : (celL c).toArray.extract 2 (2 + 64) = (nums .u8 c.b).toArray := by
  have hn : (nums .u8 c.b).length = 64 := by rw [nums_length, h]
  have h2 : (nums .u8 c.b).take 64 = nums .u8 c.b := List.take_of_length_le (by omega)
  simp [celL, hn, h2]
theorem run_eqc (w : World) {x y : Ce} (hx : x.b.length = 64) (hy : y.b.length = 64) : (Op.equalIn 10000 127 (cel x) (cel y)).run Try.prog w = .ok (eqC x y) w := by
  unfold cel eqC
  refine eqA_of Try.underlying127 (by kernel_rfl) ?_
  refine eqf_cons rfl (part_agg agg_place size_place (ex_place x) w) (part_agg agg_place size_place (ex_place y) w) (run_eqp 9997 w _ _ _ _) ?_
  exact eqf_last rfl (part_agg agg_blk size_blk (ex_b hx) w) (part_agg agg_blk size_blk (ex_b hy) w) (run_equalIn_ints w 9997 _ _ 64 .u8 Try.underlying50 R.under_u8 R.size_u8 x.b y.b hx hy)
theorem guard_cel : Try.prog.eqGuardType Try.prog.depth 127 = false := by kernel_rfl
theorem run_celNeq (x y : Operand) (t : TypeId) {A : Act} {op : Oper} (ho : op.op = .binOp .neq 127 x y t) {u v : Ce} (hx : A.eval x = cel u) (hy : A.eval y = cel v) (hu : u.b.length = 64) (hv : v.b.length = 64) (b : Bool) (hb : (!eqC u v) = b) (w : World) :
    (execOp A.eval op).run Try.prog w = .ok (.value (.bool b)) w := by
  subst hb
  have h1 : (eqGuard .neq 127 x y (cel u) (cel v)).run Try.prog w = .ok () w := run_eqGuard_agg w .neq _ x y _ _ guard_cel
  have h2 : (binOp .neq 127 (cel u) (cel v)).run Try.prog w = .ok (.bool (!eqC u v)) w := by
    unfold cel
    rw [run_neq_struct]
    have h3 := run_eqc w hu hv
    unfold cel at h3
    rw [h3]; rfl
  unfold execOp
  simp only [ho, hx, hy, Sem.run_bind, Sem.run_map, h1, h2, Result.andThen_ok, Sem.run_pure]
theorem run_celMid {op : Oper} {a : Act} {w : World} (x : Operand) (ho : op.op = .load 127 x) {g o : Nat} {c : Ce} (hl : c.b.length = 64) (hr : w.rangeAt g o (celL c)) (hx : a.eval x = .pointer (some ⟨g, o, none⟩)) : (execOp a.eval op).run Try.prog w = .ok (.value (cel c)) w := by
  unfold execOp
  simp only [ho, hx, Instr.loadAt, Instr.sureAddr, Sem.run_bind, Sem.run_map, Sem.run_pure, Result.andThen_ok, run_loadVar_mid w g o 127 _ _ hr Try.underlying127 rfl (info_cel66 hl)]
  rfl
section
variable {ops : Array Oper} {C : World → Prop} {Q : Act → Prop} {a : Act} {op : Oper} {rest : List Oper}
theorem qBlkMid (x : Operand) (ho : op.op = .load 50 x) {g o : Nat} {b : List Int} (hl : b.length = 64) (hr : ∀ w, C w → w.rangeAt g o (nums .u8 b)) (hx : a.eval x = .pointer (some ⟨g, o, none⟩)) (hw : Region.wanted op (yielded ops a.tmps) = true)
    (h : wpQuiet Try.prog ops C Q rest (a.put op.dst (blk b))) : wpQuiet Try.prog ops C Q (op :: rest) a :=
  quiet_val hw _ (fun w hC => run_blkMid x ho hl (hr w hC) hx) h
theorem qCelMid (x : Operand) (ho : op.op = .load 127 x) {g o : Nat} {c : Ce} (hl : c.b.length = 64) (hr : ∀ w, C w → w.rangeAt g o (celL c)) (hx : a.eval x = .pointer (some ⟨g, o, none⟩)) (hw : Region.wanted op (yielded ops a.tmps) = true)
    (h : wpQuiet Try.prog ops C Q rest (a.put op.dst (cel c))) : wpQuiet Try.prog ops C Q (op :: rest) a :=
  quiet_val hw _ (fun w hC => run_celMid x ho hl (hr w hC) hx) h
theorem qCelNeq (x y : Operand) (t : TypeId) (ho : op.op = .binOp .neq 127 x y t) {u v : Ce} (hx : a.eval x = cel u) (hy : a.eval y = cel v) (hu : u.b.length = 64) (hv : v.b.length = 64) (b : Bool) (hb : (!eqC u v) = b) (hw : Region.wanted op (yielded ops a.tmps) = true)
    (h : wpQuiet Try.prog ops C Q rest (a.put op.dst (.bool b))) : wpQuiet Try.prog ops C Q (op :: rest) a :=
  quiet_val hw _ (fun w hC => run_celNeq x y t ho hx hy hu hv b hb w) h
theorem qBlkNeq (x y : Operand) (t : TypeId) (ho : op.op = .binOp .neq 50 x y t) {xs ys : List Int} (hx : a.eval x = blk xs) (hy : a.eval y = blk ys) (hlx : xs.length = 64) (hly : ys.length = 64) (b : Bool) (hb : (!decide (xs = ys)) = b) (hw : Region.wanted op (yielded ops a.tmps) = true)
    (h : wpQuiet Try.prog ops C Q rest (a.put op.dst (.bool b))) : wpQuiet Try.prog ops C Q (op :: rest) a := by
  subst hb
  refine quiet_val hw _ (fun w hC => ?_) h
  have h1 : (eqGuard .neq 50 x y (blk xs) (blk ys)).run Try.prog w = .ok () w := run_eqGuard_agg w .neq _ x y _ _ guard_blk
  have h2 : (binOp .neq 50 (blk xs) (blk ys)).run Try.prog w = .ok (.bool (!decide (xs = ys))) w := by
    unfold blk
    rw [run_neq_struct]
    have h3 := run_equalIn_ints w 9998 _ _ 64 .u8 Try.underlying50 R.under_u8 R.size_u8 xs ys hlx hly
    rw [h3]; rfl
  unfold execOp
  simp only [ho, hx, hy, Sem.run_bind, Sem.run_map, h1, h2, Result.andThen_ok, Sem.run_pure]
end
set_option maxRecDepth 100000 in
set_option maxHeartbeats 1000000 in
theorem Blocks_any (A B : Option Addr) (c d : Nat) (xs ys : List (List Int)) (w : World) (HX : Hid (Bks w A xs)) (HY : Hid (Bks w B ys)) :
    Calls Try.prog 51 #[.slice A xs.length c, .slice B ys.length d] w fun e w' => (∃ b : Bool, e = .returned (.bool b) ∧ (b = true ↔ xs = ys)) ∧ Below w.heap.size w w' := by
  have hc1 := HX.out.cap
  have hc2 := HY.out.cap
  by_cases hn : xs.length = ys.length
  · have f1 : (xs.length == ys.length) = true := by simpa using hn
    have f2 : ((xs.length : Int) == (ys.length : Int)) = true := by simp; omega
    have f3 : (xs.length != ys.length) = false := by simpa using hn
    have f4 : ((xs.length : Int) != (ys.length : Int)) = false := by simp; omega
    have HN := Lib.hid hn
    clear hn
    go_enter Try.func51, Try.ntmps51
    go_wp2
    go_loopw [5] (fun i wr => ∃ q : Nat, q ≤ xs.length ∧ i = .int .i64 (q : Int) ∧ Hid (∀ j (h : j < q) (h1 : j < xs.length) (h2 : j < ys.length), xs[j] = ys[j]) ∧ Hid (Below w.heap.size w wr)) (fun i _ => xs.length - (intOf i).toNat)
    case atStart => exact ⟨0, Nat.zero_le _, rfl, Lib.hid (fun j h => absurd h (by omega)), Lib.hid (Below.refl _ _)⟩
    case round =>
      obtain ⟨q, hq, rfl, HA, HB⟩ := hrel
      have hi0 : (0 : Int) ≤ (q : Int) := by omega
      by_cases hlt : q < xs.length
      · have hlt2 : q < ys.length := by have := HN.out; omega
        obtain ⟨g, o, rfl, hg, HR, hb⟩ := (HX.out.below HB.out).at_ q hlt
        obtain ⟨g', o', rfl, hg', HR', hb'⟩ := (HY.out.below HB.out).at_ q hlt2
        obtain ⟨u, hu⟩ : ∃ u, u = xs[q] := ⟨_, rfl⟩
        obtain ⟨v, hv⟩ : ∃ v, v = ys[q] := ⟨_, rfl⟩
        rw [← hu] at HR hb
        rw [← hv] at HR' hb'
        have HE := Lib.hid (show u = v ↔ xs[q] = ys[q] by rw [hu, hv])
        clear hu hv
        have HU := Lib.hid hb
        have HV := Lib.hid hb'
        have R1 := Lib.hid (fun (w' : World) (hC : ∃ x : Later wr, w' = x.w) => (show w'.rangeAt g (o + q * 64) (nums .u8 u) by obtain ⟨x, rfl⟩ := hC; intro i z hz; rw [x.b.cell (p := ⟨g, o + q * 64 + i, none⟩) hg]; exact HR i z hz))
        have R2 := Lib.hid (fun (w' : World) (hC : ∃ x : Later wr, w' = x.w) => (show w'.rangeAt g' (o' + q * 64) (nums .u8 v) by obtain ⟨x, rfl⟩ := hC; intro i z hz; rw [x.b.cell (p := ⟨g', o' + q * 64 + i, none⟩) hg']; exact HR' i z hz))
        clear hb hb' HR HR'
        obtain ⟨z, hz⟩ : ∃ z : Bool, (!decide (u = v)) = z := ⟨_, rfl⟩
        have HZ := Lib.hid hz
        clear hz
        go_wp2
        refine wp_region_cls (fun w9 => ∃ x : Later wr, w9 = x.w) (by kernel_rfl) (by kernel_rfl) (Later.drew _) ?_
        repeat (first
          | go_big_quiet_skip
          | (refine qBlkMid (.tmp 19) rfl HU.out R1.out rfl rfl ?_; simp only [Act.put, List.setIfInBounds_toArray, List.set_cons_zero, List.set_cons_succ])
          | (refine qBlkMid (.tmp 23) rfl HV.out R2.out rfl rfl ?_; simp only [Act.put, List.setIfInBounds_toArray, List.set_cons_zero, List.set_cons_succ])
          | (refine qBlkNeq (.tmp 20) (.tmp 24) _ rfl rfl rfl HU.out HV.out z HZ.out rfl ?_; simp only [Act.put, List.setIfInBounds_toArray, List.set_cons_zero, List.set_cons_succ])
          | (go_big_quiet_want; go_big_quiet_op; go_big_quiet_on))
        refine wpQuiet_nil ?_
        rintro w9 ⟨⟨x9, h9⟩, rfl⟩
        replace HB := Lib.hid (below_ext HB.out h9)
        clear h9
        cases z with
        | false =>
          have hE : u = v := by have h := HZ.out; simpa using h
          have HE2 := Lib.hid (HE.out.1 hE)
          clear hE
          go_wp2
          go_roundw
          case rel =>
            have HA2 : Hid (∀ j (h : j < q + 1) (h1 : j < xs.length) (h2 : j < ys.length), xs[j] = ys[j]) := Lib.hid fun j h h1 h2 => by
              rcases Nat.lt_or_ge j q with h3 | h3
              · exact HA.out j h3 h1 h2
              · obtain rfl : j = q := by omega
                exact HE2.out
            first
              | exact ⟨q + 1, by omega, by go_num, HA2, HB⟩
              | exact ⟨q + 1, by omega, by go_num, HA2⟩
          case measure => simp [intOf]; omega
        | true =>
          have hE : ¬ u = v := by have h := HZ.out; simpa using h
          have HE2 := Lib.hid (fun h : xs = ys => hE (HE.out.2 (by subst h; rfl)))
          clear hE
          go_wp2
          go_ret
          exact ⟨⟨false, rfl, by constructor <;> intro h; exact absurd h (by decide); exact absurd h HE2.out⟩, HB.out⟩
      · have HE2 := Lib.hid (show xs = ys from List.ext_getElem HN.out fun j h1 h2 => HA.out j (by omega) h1 h2)
        go_wp2
        go_ret
        exact ⟨⟨true, rfl, by constructor <;> intro h; exact HE2.out; rfl⟩, HB.out⟩
  · have f1 : (xs.length == ys.length) = false := by simpa using hn
    have f2 : ((xs.length : Int) == (ys.length : Int)) = false := by simp; omega
    have f3 : (xs.length != ys.length) = true := by simpa using hn
    have f4 : ((xs.length : Int) != (ys.length : Int)) = true := by simp; omega
    have HN := Lib.hid (fun h : xs = ys => hn (by rw [h]))
    clear hn
    have HB := Lib.hid (Below.refl w.heap.size w)
    go_enter Try.func51, Try.ntmps51
    go_wp2
    go_ret
    exact ⟨⟨false, rfl, by constructor <;> intro h; exact absurd h (by decide); exact absurd h HN.out⟩, HB.out⟩
set_option maxRecDepth 100000 in
set_option maxHeartbeats 1000000 in
theorem Cells_any (A B : Option Addr) (c d : Nat) (xs ys : List Ce) (w : World) (HX : Hid (Cls w A xs)) (HY : Hid (Cls w B ys)) :
    Calls Try.prog 52 #[.slice A xs.length c, .slice B ys.length d] w fun e w' => (∃ b : Bool, e = .returned (.bool b) ∧ (b = true ↔ xs = ys)) ∧ Below w.heap.size w w' := by
  have hc1 := HX.out.cap
  have hc2 := HY.out.cap
  by_cases hn : xs.length = ys.length
  · have f1 : (xs.length == ys.length) = true := by simpa using hn
    have f2 : ((xs.length : Int) == (ys.length : Int)) = true := by simp; omega
    have f3 : (xs.length != ys.length) = false := by simpa using hn
    have f4 : ((xs.length : Int) != (ys.length : Int)) = false := by simp; omega
    have HN := Lib.hid hn
    clear hn
    go_enter Try.func52, Try.ntmps52
    go_wp2
    go_loopw [5] (fun i wr => ∃ q : Nat, q ≤ xs.length ∧ i = .int .i64 (q : Int) ∧ Hid (∀ j (h : j < q) (h1 : j < xs.length) (h2 : j < ys.length), xs[j] = ys[j]) ∧ Hid (Below w.heap.size w wr)) (fun i _ => xs.length - (intOf i).toNat)
    case atStart => exact ⟨0, Nat.zero_le _, rfl, Lib.hid (fun j h => absurd h (by omega)), Lib.hid (Below.refl _ _)⟩
    case round =>
      obtain ⟨q, hq, rfl, HA, HB⟩ := hrel
      have hi0 : (0 : Int) ≤ (q : Int) := by omega
      by_cases hlt : q < xs.length
      · have hlt2 : q < ys.length := by have := HN.out; omega
        obtain ⟨g, o, rfl, hg, HR, hb⟩ := (HX.out.below HB.out).at_ q hlt
        obtain ⟨g', o', rfl, hg', HR', hb'⟩ := (HY.out.below HB.out).at_ q hlt2
        obtain ⟨u, hu⟩ : ∃ u, u = xs[q] := ⟨_, rfl⟩
        obtain ⟨v, hv⟩ : ∃ v, v = ys[q] := ⟨_, rfl⟩
        rw [← hu] at HR hb
        rw [← hv] at HR' hb'
        have HE := Lib.hid (show u = v ↔ xs[q] = ys[q] by rw [hu, hv])
        clear hu hv
        have HU := Lib.hid hb
        have HV := Lib.hid hb'
        have R1 := Lib.hid (fun (w' : World) (hC : ∃ x : Later wr, w' = x.w) => (show w'.rangeAt g (o + q * 66) (celL u) by obtain ⟨x, rfl⟩ := hC; intro i z hz; rw [x.b.cell (p := ⟨g, o + q * 66 + i, none⟩) hg]; exact HR i z hz))
        have R2 := Lib.hid (fun (w' : World) (hC : ∃ x : Later wr, w' = x.w) => (show w'.rangeAt g' (o' + q * 66) (celL v) by obtain ⟨x, rfl⟩ := hC; intro i z hz; rw [x.b.cell (p := ⟨g', o' + q * 66 + i, none⟩) hg']; exact HR' i z hz))
        clear hb hb' HR HR'
        obtain ⟨z, hz⟩ : ∃ z : Bool, (!eqC u v) = z := ⟨_, rfl⟩
        have HZ := Lib.hid hz
        clear hz
        go_wp2
        refine wp_region_cls (fun w9 => ∃ x : Later wr, w9 = x.w) (by kernel_rfl) (by kernel_rfl) (Later.drew _) ?_
        repeat (first
          | go_big_quiet_skip
          | (refine qCelMid (.tmp 19) rfl HU.out R1.out rfl rfl ?_; simp only [Act.put, List.setIfInBounds_toArray, List.set_cons_zero, List.set_cons_succ])
          | (refine qCelMid (.tmp 23) rfl HV.out R2.out rfl rfl ?_; simp only [Act.put, List.setIfInBounds_toArray, List.set_cons_zero, List.set_cons_succ])
          | (refine qCelNeq (.tmp 20) (.tmp 24) _ rfl rfl rfl HU.out HV.out z HZ.out rfl ?_; simp only [Act.put, List.setIfInBounds_toArray, List.set_cons_zero, List.set_cons_succ])
          | (go_big_quiet_want; go_big_quiet_op; go_big_quiet_on))
        refine wpQuiet_nil ?_
        rintro w9 ⟨⟨x9, h9⟩, rfl⟩
        replace HB := Lib.hid (below_ext HB.out h9)
        clear h9
        cases z with
        | false =>
          have hE : u = v := (eqC_iff u v).1 (by have h := HZ.out; simpa using h)
          have HE2 := Lib.hid (HE.out.1 hE)
          clear hE
          go_wp2
          go_roundw
          case rel =>
            have HA2 : Hid (∀ j (h : j < q + 1) (h1 : j < xs.length) (h2 : j < ys.length), xs[j] = ys[j]) := Lib.hid fun j h h1 h2 => by
              rcases Nat.lt_or_ge j q with h3 | h3
              · exact HA.out j h3 h1 h2
              · obtain rfl : j = q := by omega
                exact HE2.out
            first
              | exact ⟨q + 1, by omega, by go_num, HA2, HB⟩
              | exact ⟨q + 1, by omega, by go_num, HA2⟩
          case measure => simp [intOf]; omega
        | true =>
          have hE : ¬ u = v := fun h => by have h2 := HZ.out; rw [(eqC_iff u v).2 h] at h2; exact absurd h2 (by decide)
          have HE2 := Lib.hid (fun h : xs = ys => hE (HE.out.2 (by subst h; rfl)))
          clear hE
          go_wp2
          go_ret
          exact ⟨⟨false, rfl, by constructor <;> intro h; exact absurd h (by decide); exact absurd h HE2.out⟩, HB.out⟩
      · have HE2 := Lib.hid (show xs = ys from List.ext_getElem HN.out fun j h1 h2 => HA.out j (by omega) h1 h2)
        go_wp2
        go_ret
        exact ⟨⟨true, rfl, by constructor <;> intro h; exact HE2.out; rfl⟩, HB.out⟩
  · have f1 : (xs.length == ys.length) = false := by simpa using hn
    have f2 : ((xs.length : Int) == (ys.length : Int)) = false := by simp; omega
    have f3 : (xs.length != ys.length) = true := by simpa using hn
    have f4 : ((xs.length : Int) != (ys.length : Int)) = true := by simp; omega
    have HN := Lib.hid (fun h : xs = ys => hn (by rw [h]))
    clear hn
    have HB := Lib.hid (Below.refl w.heap.size w)
    go_enter Try.func52, Try.ntmps52
    go_wp2
    go_ret
    exact ⟨⟨false, rfl, by constructor <;> intro h; exact absurd h (by decide); exact absurd h HN.out⟩, HB.out⟩
end Go.Proofs.Ytdchcggllcgokaa.Y

namespace Go.Proofs.Ytdchcggllcgokaa.Y
open Go.RowKit Go.Proofs.Ytdchcggllcgokaa.L Go.Proofs.Ytdchcggllcgokaa.U Go.Proofs.Ytdchcggllcgokaa.R Go.Proofs.Ytdchcggllcgokaa.E Go.Proofs.YtdchcggllcgokaaW.PrintWords
set_option linter.unusedVariables false
set_option linter.unusedSimpArgs false
theorem flat_length {α : Type} (k : Nat) : ∀ (l : List (List α)), (∀ v ∈ l, v.length = k) → l.flatten.length = l.length * k
  | [], _ => by simp
  | v :: l, h => by
    rw [List.flatten_cons, List.length_append, flat_length k l (fun x hx => h x (List.mem_cons_of_mem _ hx)), h v List.mem_cons_self, List.length_cons, Nat.add_mul, Nat.one_mul, Nat.add_comm]
theorem flat_get {α : Type} (k : Nat) : ∀ (l : List (List α)), (∀ v ∈ l, v.length = k) → ∀ (q r : Nat) (v : List α), l[q]? = some v → r < k → l.flatten[q * k + r]? = v[r]?
  | [], _, q, r, v, hv, _ => by simp at hv
  | a :: l, h, 0, r, v, hv, hr => by
    simp only [List.getElem?_cons_zero, Option.some.injEq] at hv
    subst hv
    rw [List.flatten_cons, Nat.zero_mul, Nat.zero_add, List.getElem?_append_left (by rw [h a List.mem_cons_self]; exact hr)]
  | a :: l, h, q + 1, r, v, hv, hr => by
    have ha : a.length = k := h a List.mem_cons_self
    rw [List.getElem?_cons_succ] at hv
    rw [List.flatten_cons, show (q + 1) * k + r = k + (q * k + r) by rw [Nat.add_mul]; omega, List.getElem?_append_right (by omega), show k + (q * k + r) - a.length = q * k + r by omega]
    exact flat_get k l (fun x hx => h x (List.mem_cons_of_mem _ hx)) q r v hv hr
/-- the elements of a slice, cell by cell -/
theorem Els.flat {k : Nat} (hk : 0 < k) {W : World} {l : List (List Value)} {g o : Nat} (hl : ∀ v ∈ l, v.length = k) (h : ∀ (j : Nat) v, l[j]? = some v → W.rangeAt g (o + j * k) v) (j : Nat) (u : Value) (hu : l.flatten[j]? = some u) : W.cell? ((⟨g, o, none⟩ : Addr).add j) = some u := by
  have hj : j < l.length * k := by
    have h1 := (List.getElem?_eq_some_iff.1 hu).1
    rwa [flat_length k l hl] at h1
  have hq : j / k < l.length := Nat.div_lt_of_lt_mul (by rwa [Nat.mul_comm])
  have hr : j % k < k := Nat.mod_lt _ hk
  have he : j / k * k + j % k = j := by rw [Nat.mul_comm]; exact Nat.div_add_mod j k
  have h2 := flat_get k l hl (j / k) (j % k) l[j / k] (List.getElem?_eq_getElem hq) hr
  rw [he, hu] at h2
  have h3 := h (j / k) l[j / k] (List.getElem?_eq_getElem hq) (j % k) u h2.symm
  rw [Addr.add_mid]
  rw [Nat.add_assoc, he] at h3
  exact h3
theorem own_els {k : Nat} {T : TypeId} {b : Nat} {W : World} {A : Option Addr} {c : Nat} {l : List (List Value)} (hl : ∀ v ∈ l, v.length = k) (h : W.ownsRow b T k (.slice A l.length c) l.length l.flatten) : Els k W A l := by
  refine ⟨?_, fun h0 => ?_⟩
  · rcases h.2 with ⟨he, h1⟩ | ⟨g, cap, cur, he, _, _, h1, h2, _⟩
    · omega
    · simp only [maxLen] at h2; omega
  · rcases h.2 with ⟨he, h1⟩ | ⟨g, cap, cur, he, hb, hg, h1, h2, _⟩
    · omega
    · injection he with e1 e2 e3
      subst e1
      refine ⟨g, 0, rfl, (Array.getElem?_eq_some_iff.1 hg).1, fun j v hv i u hu => ?_⟩
      have hi : i < k := by
        have h3 := (List.getElem?_eq_some_iff.1 hu).1
        rwa [hl v (List.mem_of_getElem? hv)] at h3
      have h4 := flat_get k l hl j i v hv hi
      rw [hu] at h4
      have h5 := h.cells (g := g) rfl (j * k + i) u h4
      rw [Addr.add_mid] at h5
      rw [Nat.add_assoc]
      exact h5
/-- blocks of a call's own -/
def OBk (b : Nat) (W : World) (A : Option Addr) (c : Nat) (l : List (List Int)) : Prop := (∀ x ∈ l, x.length = 64) ∧ W.ownsRow b 50 64 (.slice A l.length c) l.length (l.map (nums .u8)).flatten
def OCl (b : Nat) (W : World) (A : Option Addr) (c : Nat) (l : List Ce) : Prop := (∀ x ∈ l, x.b.length = 64) ∧ W.ownsRow b 127 66 (.slice A l.length c) l.length (l.map celL).flatten
theorem all64 {l : List (List Int)} (h : ∀ x ∈ l, x.length = 64) : ∀ v ∈ l.map (nums .u8), v.length = 64 := fun v hv => by
  obtain ⟨x, hx, rfl⟩ := List.mem_map.1 hv
  rw [nums_length, h x hx]
theorem all66 {l : List Ce} (h : ∀ x ∈ l, x.b.length = 64) : ∀ v ∈ l.map celL, v.length = 66 := fun v hv => by
  obtain ⟨x, hx, rfl⟩ := List.mem_map.1 hv
  exact celL_length (h x hx)
theorem OBk.bks {b : Nat} {W : World} {A : Option Addr} {c : Nat} {l : List (List Int)} (h : OBk b W A c l) : Bks W A l :=
  ⟨h.1, own_els (T := 50) (b := b) (c := c) (all64 h.1) (by rw [List.length_map]; exact h.2)⟩
theorem OCl.cls {b : Nat} {W : World} {A : Option Addr} {c : Nat} {l : List Ce} (h : OCl b W A c l) : Cls W A l :=
  ⟨h.1, own_els (T := 127) (b := b) (c := c) (all66 h.1) (by rw [List.length_map]; exact h.2)⟩
theorem OBk.below {b : Nat} {W W1 : World} {A : Option Addr} {c : Nat} {l : List (List Int)} (h : OBk b W A c l) (hb : Below W.heap.size W W1) : OBk b W1 A c l := ⟨h.1, pw_own_below h.2 hb⟩
theorem OCl.below {b : Nat} {W W1 : World} {A : Option Addr} {c : Nat} {l : List Ce} (h : OCl b W A c l) (hb : Below W.heap.size W W1) : OCl b W1 A c l := ⟨h.1, pw_own_below h.2 hb⟩
theorem one_nums (xs : List Int) : ∀ u ∈ nums .u8 xs, u.oneCell' = true := fun u hu => by
  simp only [nums, List.mem_map] at hu
  obtain ⟨q, _, rfl⟩ := hu
  rfl
theorem one_blks (l : List (List Int)) : ∀ u ∈ (l.map (nums .u8)).flatten, u.oneCell' = true := fun u hu => by
  obtain ⟨v, hv, hu⟩ := List.mem_flatten.1 hu
  obtain ⟨x, _, rfl⟩ := List.mem_map.1 hv
  exact one_nums x u hu
theorem one_celL (c : Ce) : ∀ u ∈ celL c, u.oneCell' = true := fun u hu => by
  simp only [celL, List.mem_cons] at hu
  rcases hu with rfl | rfl | hu
  · rfl
  · rfl
  · exact one_nums c.b u hu
theorem one_cels (l : List Ce) : ∀ u ∈ (l.map celL).flatten, u.oneCell' = true := fun u hu => by
  obtain ⟨v, hv, hu⟩ := List.mem_flatten.1 hu
  obtain ⟨x, _, rfl⟩ := List.mem_map.1 hv
  exact one_celL x u hu
section
variable {P : Program} {ops : Array Oper} {rest : List Oper} {o : Oper} {a : Act} {Q : Exit → Act → World → Prop}
/-- append(v, l...): elements of k cells each -/
theorem append_els {w0 W : World} (base : Nat) (hgd : o.guard = none) (s x : Operand) (t e : TypeId) (z : Value) (k bytes : Nat)
    (ho : o.op = .call { callee := .builtin .append, args := #[s, x], argTypes := #[t, t] })
    (ht : P.underlying t = some (.slice e)) (hinfo : (P.info? e).map (fun i => (i.zero, i.size, i.bytes)) = some (some z, k, bytes)) (hz : z.cells.size = k) (hk : 0 < k) (hb0 : 0 < bytes)
    (v : Value) (n : Nat) (xs : List Value) (l : List (List Value)) (A : Option Addr) (m c : Nat) (hs : a.eval s = v) (hx : a.eval x = .slice A m c) (hm : m = l.length)
    (HO : W.ownsRow base e k v n xs) (HR : Els k W A l) (hlk : ∀ v ∈ l, v.length = k) (h1 : ∀ u ∈ l.flatten, u.oneCell' = true) (HB : Below base w0 W) (hbase : base ≤ W.heap.size) (hl : (n + l.length) * bytes ≤ 140737488355328)
    (h : ∀ v1 w1, w1.ownsRow base e k v1 (n + l.length) (xs ++ l.flatten) → Below base w0 w1 → W.grownBy w1 v.ownBlock → (v1.ownBlock = v.ownBlock ∨ ∃ b, v1.ownBlock = some b ∧ W.heap.size ≤ b) → wpList P ops Q rest (a.put o.dst v1) w1) :
    wpList P ops Q (o :: rest) a W := by
  subst hm
  obtain ⟨i0, hi, hzz⟩ := Option.map_eq_some_iff.1 hinfo
  simp only [Prod.mk.injEq] at hzz
  obtain ⟨hz0, hz1, hz2⟩ := hzz
  have hlen : n + l.length ≤ 140737488355328 := Nat.le_trans (Nat.le_mul_of_pos_right _ hb0) hl
  have hrun : ∃ v1 w1, (Builtin.append_ #[t, t] o.type #[v, .slice A l.length c]).run P W = .ok v1 w1 ∧ w1.ownsRow base e k v1 (n + l.length) (xs ++ l.flatten) ∧ W.grownBy w1 v.ownBlock ∧ (v1.ownBlock = v.ownBlock ∨ v1.ownBlock = some W.heap.size) := by
    rcases A with _ | ad
    · have h0 : l.length = 0 := by
        rcases Nat.eq_zero_or_pos l.length with h0 | h0
        · exact h0
        · obtain ⟨g, o, h, _⟩ := HR.2 h0
          cases h
      obtain rfl : l = [] := List.eq_nil_of_length_eq_zero h0
      refine ⟨v, W, ?_, by simpa using HO, World.grownBy.refl W _, .inl rfl⟩
      rcases HO.2 with ⟨rfl, hn⟩ | ⟨g, cap, cur, rfl, _, _, hnc, _⟩
      · simp [Builtin.append_, run_underlying ht, sizeOf, typeInfo, hi, Builtin.lenOf, Builtin.firstCells]
      · simp [Builtin.append_, run_underlying ht, sizeOf, typeInfo, hi, Builtin.lenOf, Builtin.firstCells, hnc, storeCells]
    · have hcells : ∀ j u, l.flatten[j]? = some u → W.cell? (ad.add j) = some u := by
        intro j u hu
        have h0 : 0 < l.length := by
          rcases Nat.eq_zero_or_pos l.length with h0 | h0
          · obtain rfl : l = [] := List.eq_nil_of_length_eq_zero h0
            simp at hu
          · exact h0
        obtain ⟨g, o, he, _, hr⟩ := HR.2 h0
        injection he with he
        subst he
        exact Els.flat hk hlk hr j u hu
      obtain ⟨v1, w1, hr, h2, h3, _, h5⟩ := run_append_own_at (P := P) W base t o.type e i0 z k bytes ht hi hz0 hz1 hz2 hz hk v n xs HO ad l.length c l.flatten (flat_length k l hlk) hcells h1 (by simp only [maxLen]; omega) hl hbase
      exact ⟨v1, w1, hr, h2, h3, h5⟩
  obtain ⟨v1, w1, hr, hown, hg, hat⟩ := hrun
  refine wpList_plain hgd fun K hK => ?_
  unfold Oper.wp execOp
  simp only [ho, resolve, invoke, builtin, Sem.run_bind, Sem.run_pure, Result.andThen_ok, List.map_toArray, List.map_cons, List.map_nil, hs, hx, hr]
  refine hK _ _ (h v1 w1 hown (HB.grown hg hbase (own_base HO)) hg ?_)
  rcases hat with hat | hat
  · exact .inl hat
  · exact .inr ⟨_, hat, Nat.le_refl _⟩
end
def zeroBlkV : Value := .agg (nums .u8 zeros).toArray
def zeroCelV : Value := .agg (celL ⟨0, 0, zeros⟩).toArray
theorem infoB : (Try.prog.info? 50).map (fun i => (i.zero, i.size, i.bytes)) = some (some zeroBlkV, 64, 64) := by kernel_rfl
theorem infoC : (Try.prog.info? 127).map (fun i => (i.zero, i.size, i.bytes)) = some (some zeroCelV, 66, 80) := by kernel_rfl
theorem zsB : zeroBlkV.cells.size = 64 := by kernel_rfl
theorem zsC : zeroCelV.cells.size = 66 := by kernel_rfl
set_option maxRecDepth 100000 in
set_option maxHeartbeats 1000000 in
theorem CopyBlocks_any (A : Option Addr) (c : Nat) (l : List (List Int)) (hn : l.length * 64 ≤ 140737488355328) (w : World) (HL : Hid (Bks w A l)) :
    Calls Try.prog 55 #[.slice A l.length c] w fun e w' => (∃ A' c', e = .returned (.slice A' l.length c') ∧ OBk w.heap.size w' A' c' l) ∧ Below w.heap.size w w' := by
  have HO := Lib.hid (World.ownsRow_nil w w.heap.size 50 64)
  have hl5 : Hid ((0 + (l.map (nums .u8)).length) * 64 ≤ 140737488355328) := Lib.hid (by rw [List.length_map]; omega)
  have HM := Lib.hid (show l.length = (l.map (nums .u8)).length by rw [List.length_map])
  clear hn
  go_enter Try.func55, Try.ntmps55
  go_wp2_with (first
    | (at_builtin; refine append_els (w0 := w) w.heap.size rfl (.tmp 4) (.tmp 5) 42 50 zeroBlkV 64 64 rfl Try.underlying42 infoB zsB (by decide) (by decide) _ 0 [] (l.map (nums .u8)) A l.length c rfl rfl HM.out HO.out HL.out.2 (all64 HL.out.1) (one_blks l) (Below.refl _ _) (Nat.le_refl _) hl5.out ?_; intro v1 w5 ho5 hb5 hg5 hat5))
  go_ret
  have ho6 : w5.ownsRow w.heap.size 50 64 v1 l.length (l.map (nums .u8)).flatten := by simpa using ho5
  obtain ⟨A', c', rfl⟩ := own_slice ho6
  exact ⟨⟨A', c', rfl, HL.out.1, ho6⟩, hb5⟩
set_option maxRecDepth 100000 in
set_option maxHeartbeats 1000000 in
theorem CopyCells_any (A : Option Addr) (c : Nat) (l : List Ce) (hn : l.length * 80 ≤ 140737488355328) (w : World) (HL : Hid (Cls w A l)) :
    Calls Try.prog 46 #[.slice A l.length c] w fun e w' => (∃ A' c', e = .returned (.slice A' l.length c') ∧ OCl w.heap.size w' A' c' l) ∧ Below w.heap.size w w' := by
  have HO := Lib.hid (World.ownsRow_nil w w.heap.size 127 66)
  have hl5 : Hid ((0 + (l.map celL).length) * 80 ≤ 140737488355328) := Lib.hid (by rw [List.length_map]; omega)
  have HM := Lib.hid (show l.length = (l.map celL).length by rw [List.length_map])
  clear hn
  go_enter Try.func46, Try.ntmps46
  go_wp2_with (first
    | (at_builtin; refine append_els (w0 := w) w.heap.size rfl (.tmp 4) (.tmp 5) 40 127 zeroCelV 66 80 rfl Try.underlying40 infoC zsC (by decide) (by decide) _ 0 [] (l.map celL) A l.length c rfl rfl HM.out HO.out HL.out.2 (all66 HL.out.1) (one_cels l) (Below.refl _ _) (Nat.le_refl _) hl5.out ?_; intro v1 w5 ho5 hb5 hg5 hat5))
  go_ret
  have ho6 : w5.ownsRow w.heap.size 127 66 v1 l.length (l.map celL).flatten := by simpa using ho5
  obtain ⟨A', c', rfl⟩ := own_slice ho6
  exact ⟨⟨A', c', rfl, HL.out.1, ho6⟩, hb5⟩
end Go.Proofs.Ytdchcggllcgokaa.Y

namespace Go.Proofs.Ytdchcggllcgokaa.Y
open Go.RowKit Go.Proofs.Ytdchcggllcgokaa.L Go.Proofs.Ytdchcggllcgokaa.U Go.Proofs.Ytdchcggllcgokaa.R Go.Proofs.Ytdchcggllcgokaa.E Go.Proofs.YtdchcggllcgokaaW.PrintWords
set_option linter.unusedVariables false
set_option linter.unusedSimpArgs false
def mayP (s m : Int) : Bool := decide (0 ≤ s ∧ s < 64 ∧ 0 ≤ m ∧ m < 16)
set_option maxRecDepth 100000 in
set_option maxHeartbeats 1000000 in
theorem may_any (s m : Int) (w : World) : Calls Try.prog 117 #[.agg #[.int .i64 s, .int .i64 m]] w fun e w' => e = .returned (.bool (mayP s m)) ∧ Below w.heap.size w w' := by
  rcases (by omega : (s < 0) ∨ (0 ≤ s ∧ 64 ≤ s) ∨ (0 ≤ s ∧ s < 64 ∧ m < 0) ∨ (0 ≤ s ∧ s < 64 ∧ 0 ≤ m ∧ 16 ≤ m) ∨ (0 ≤ s ∧ s < 64 ∧ 0 ≤ m ∧ m < 16)) with h1 | ⟨h1, h2⟩ | ⟨h1, h2, h3⟩ | ⟨h1, h2, h3, h4⟩ | ⟨h1, h2, h3, h4⟩
  all_goals
    go_enter Try.func117, Try.ntmps117
    go_wp2
    go_ret
    exact ⟨ret_b (by rw [Bool.eq_iff_iff]; simp [mayP]; try omega), (Below.refl _ _).alloc (Nat.le_refl _) _⟩
set_option maxRecDepth 100000 in
set_option maxHeartbeats 1000000 in
theorem rmay_any (s m : Int) (w : World) : Calls Try.prog 119 #[.agg #[.int .i64 s, .int .i64 m]] w fun e w' => e = .returned (.bool (mayP s m)) ∧ Below w.heap.size w w' := by
  rcases (by omega : (s < 0) ∨ (0 ≤ s ∧ 64 ≤ s) ∨ (0 ≤ s ∧ s < 64 ∧ m < 0) ∨ (0 ≤ s ∧ s < 64 ∧ 0 ≤ m ∧ 16 ≤ m) ∨ (0 ≤ s ∧ s < 64 ∧ 0 ≤ m ∧ m < 16)) with h1 | ⟨h1, h2⟩ | ⟨h1, h2, h3⟩ | ⟨h1, h2, h3, h4⟩ | ⟨h1, h2, h3, h4⟩
  all_goals
    go_enter Try.func119, Try.ntmps119
    go_wp2
    go_ret
    exact ⟨ret_b (by rw [Bool.eq_iff_iff]; simp [mayP]; try omega), (Below.refl _ _).alloc (Nat.le_refl _) _⟩
theorem fold_set (off : Nat) : ∀ (vs old : List Value) (k : Nat) (pre post : List Value), pre.length = off + k → old.length = vs.length →
    (vs.zipIdx k).foldl (fun cs (x : Value × Nat) => cs.setIfInBounds (off + x.2) x.1) (pre ++ old ++ post).toArray = (pre ++ vs ++ post).toArray
  | [], old, k, pre, post, hp, ho => by
    have h0 : old = [] := List.eq_nil_of_length_eq_zero (by simpa using ho)
    subst h0; rfl
  | v :: vs, [], k, pre, post, hp, ho => by simp at ho
  | v :: vs, o :: old, k, pre, post, hp, ho => by
    have h1 : (pre ++ (o :: old) ++ post).toArray.setIfInBounds (off + k) v = ((pre ++ [v]) ++ old ++ post).toArray := by
      rw [List.setIfInBounds_toArray, ← hp]
      congr 1
      simp
    have h2 := fold_set off vs old (k + 1) (pre ++ [v]) post (by rw [List.length_append, hp]; simp; omega) (by simpa using ho)
    rw [List.zipIdx_cons, List.foldl_cons, h1, h2]
    congr 1
    simp
theorem fill_one (place : Nat → Option (Nat × Nat)) (i off size : Nat) (hpl : place i = some (off, size)) (pre old post vs : List Value) (hp : pre.length = off) (ho : old.length = size) (hv : vs.length = size) (rest : List (Nat × Value)) :
    Instr.fill place (pre ++ old ++ post).toArray ((i, .agg vs.toArray) :: rest) = Instr.fill place (pre ++ vs ++ post).toArray rest := by
  have h := fold_set off vs old 0 pre post (by omega) (by omega)
  simp only [Instr.fill, hpl]
  rw [if_neg]
  · congr 1
    simp only [Value.cells, List.size_toArray]
    rw [← Array.foldl_toList, Array.toList_zipIdx]
    exact h
  · simp only [Value.cells, List.size_toArray, List.length_append, ne_eq, decide_not, Bool.or_eq_true, Bool.not_eq_eq_eq_not, Bool.not_true, decide_eq_false_iff_not, decide_eq_true_eq]
    omega
theorem run_bsBlk {b : List Int} (hb : b.length = 64) (w : World) : (Instr.buildSlice 42 1 #[(0, blk b)]).run Try.prog w = .ok (.slice (some ⟨w.heap.size, 0, none⟩) 1 1) (w.alloc (.cells (nums .u8 b).toArray 50)) := by
  have hi := infoB
  cases hq : Try.prog.info? 50 with
  | none => simp [hq] at hi
  | some ie =>
    simp only [hq, Option.map_some, Option.some.injEq, Prod.mk.injEq] at hi
    obtain ⟨h1, h2, h3⟩ := hi
    refine run_buildSlice w _ _ 1 _ _ ie zeroBlkV Try.underlying42 hq h1 (by rw [h2]; decide) (by rw [h2]; decide) ?_
    rw [h2]
    have hz : ((Array.range (1 * 64)).map (zeroBlkV.cells[· % zeroBlkV.cells.size]!)) = ([] ++ nums .u8 zeros ++ []).toArray := by kernel_rfl
    rw [hz]
    show Instr.fill (fun i => some (i * 64, 64)) ([] ++ nums .u8 zeros ++ []).toArray [(0, blk b)] = some (nums .u8 b).toArray
    rw [blk, fill_one (fun i => some (i * 64, 64)) 0 0 64 rfl [] (nums .u8 zeros) [] (nums .u8 b) rfl (by rw [nums_length, zeros_length]) (by rw [nums_length, hb])]
    simp [Instr.fill]
theorem nums_set (fl : List Int) (j : Nat) (v : Int) : (nums .u8 fl).toArray.setIfInBounds j (.int .u8 v) = (nums .u8 (fl.set j v)).toArray := by
  rw [List.setIfInBounds_toArray]
  congr 1
  simp [nums]
theorem nums_splice (fl ys : List Int) (o : Nat) : splice (nums .u8 fl) o (nums .u8 ys) = nums .u8 (splice fl o ys) := by
  simp [splice, nums]
theorem zcell (j : Nat) (hj : j < 64) : zeroBlkV.cells[j]! = .int .u8 0 := by
  have h : ∀ j : Fin 64, zeroBlkV.cells[j.1]! = .int .u8 0 := by
    intro j
    have hs : j.1 < zeroBlkV.cells.size := by rw [zsB]; exact j.2
    rw [getElem!_pos zeroBlkV.cells j.1 hs]
    show (nums .u8 zeros).toArray[j.1]'(by rw [List.size_toArray, nums_length, zeros_length]; exact j.2) = _
    have hz : ∀ x ∈ zeros, x = 0 := fun x hx => (List.mem_replicate.1 hx).2
    simp only [List.getElem_toArray, nums, List.getElem_map]
    rw [hz _ (List.getElem_mem _)]
  exact h ⟨j, hj⟩
theorem made64 (c : Nat) : madeCells zeroBlkV.cells (c * 64) = (nums .u8 (Z (64 * c))).toArray := by
  apply Array.ext
  · rw [size_madeCells, List.size_toArray, nums_length, Z_length, Nat.mul_comm]
  · intro i hi1 hi2
    have e : (madeCells zeroBlkV.cells (c * 64))[i] = zeroBlkV.cells[i % zeroBlkV.cells.size]! := by simp [madeCells]
    rw [e, zsB, zcell _ (Nat.mod_lt _ (by decide))]
    simp [nums, Z]
abbrev TB : TypeId := 50
section
variable {ops : Array Oper} {rest : List Oper} {op : Oper} {a : Act} {w : World} {Q : Exit → Act → World → Prop}
/-- sectors are made -/
theorem blkMake (x y : Operand) (ho : op.op = .makeSlice 42 x y) (n c : Nat) (hx : a.eval x = .int .i64 (n : Int)) (hy : a.eval y = .int .i64 (c : Int)) (hnc : n ≤ c) (hc : c ≤ 64) (hw : Region.wanted op (yielded ops a.tmps) = true)
    (h : ∀ w1, Row TB w1 w.heap.size (nums .u8 (Z (64 * c))).toArray → Below w.heap.size w w1 → w.heap.size < w1.heap.size → wpList Try.prog ops Q rest (a.put op.dst (.slice (some ⟨w.heap.size, 0, none⟩) n c)) w1) : wpList Try.prog ops Q (op :: rest) a w := by
  refine wanted_step hw fun K hK => ?_
  have hi := infoB
  have hrun : (Instr.makeSlice 42 (.int .i64 (n : Int)) (.int .i64 (c : Int))).run Try.prog w = .ok (.slice (some ⟨w.heap.size, 0, none⟩) n c) (w.alloc (.cells (nums .u8 (Z (64 * c))).toArray TB)) := by
    cases hq : Try.prog.info? 50 with
    | none => simp [hq] at hi
    | some ie =>
      simp only [hq, Option.map_some, Option.some.injEq, Prod.mk.injEq] at hi
      obtain ⟨h1, h2, h3⟩ := hi
      have hr := run_make (P := Try.prog) w 42 TB ie zeroBlkV Try.underlying42 hq h1 .i64 .i64 (n : Int) (c : Int) (by omega) (by omega) (by rw [h3]; omega) (by omega)
      rw [hr, Int.toNat_natCast, Int.toNat_natCast, h2]
      rw [made64]
  have hg := World.grownBy_alloc w (.cells (nums .u8 (Z (64 * c))).toArray TB) none
  unfold Oper.wp execOp
  simp only [ho, hx, hy, hrun, Sem.run_bind, Sem.run_map, Sem.run_pure, Result.andThen_ok]
  exact hK _ _ (h _ (heap_alloc_last w _) (grown_below hg) (by simp))
/-- a block's bytes from a place on, as a slice -/
theorem blkFrom (x y : Operand) (ho : op.op = .slice 50 x (some y) none none) {g o k : Nat} (hx : a.eval x = .pointer (some ⟨g, o, none⟩)) (ki : Int) (hy : a.eval y = .int .i64 ki) (hki : ki = (k : Int)) (hk : k < 64) (hw : Region.wanted op (yielded ops a.tmps) = true)
    (h : wpList Try.prog ops Q rest (a.put op.dst (.slice (some ⟨g, o + k, none⟩) (64 - k) (64 - k))) w) : wpList Try.prog ops Q (op :: rest) a w := by
  subst hki
  refine val_step ?_ hw h
  have hrun : (Instr.sliceAt 50 (.pointer (some ⟨g, o, none⟩)) (some (.int .i64 (k : Int))) none none).run Try.prog w = .ok (.slice (some ⟨g, o + k, none⟩) (64 - k) (64 - k)) w := by
    have h3 : Try.prog.arrayLen 50 = 64 := by kernel_rfl
    have h1 := run_sliceAt_array_l (P := Try.prog) w 50 ⟨g, o, none⟩ (by kernel_rfl) .i64 (k : Int) (by omega) (by rw [h3]; omega)
    rw [h1]
    have h2 : (sizeOf (Try.prog.elem 50)).run Try.prog w = .ok 1 w := by kernel_rfl
    rw [h2, h3]
    simp only [Result.andThen_ok, slicedAt, Int.toNat_natCast, Nat.mul_one, Addr.add_mid]
    rw [if_neg (by omega)]
  unfold execOp
  simp only [ho, hx, hy, Option.map_some, Option.map_none, hrun, Sem.run_bind, Sem.run_map, Sem.run_pure, Result.andThen_ok]
/-- a block behind sectors with room -/
theorem blkBuild1 (x : Operand) (ho : op.op = .buildSlice 42 1 #[(0, x)]) {b : List Int} (hb : b.length = 64) (hx : a.eval x = blk b) (hw : Region.wanted op (yielded ops a.tmps) = true)
    (h : ∀ w1, Row TB w1 w.heap.size (nums .u8 b).toArray → Below w.heap.size w w1 → w.heap.size < w1.heap.size → wpList Try.prog ops Q rest (a.put op.dst (.slice (some ⟨w.heap.size, 0, none⟩) 1 1)) w1) : wpList Try.prog ops Q (op :: rest) a w := by
  refine wanted_step hw fun K hK => ?_
  have hg := World.grownBy_alloc w (.cells (nums .u8 b).toArray TB) none
  unfold Oper.wp execOp
  simp only [ho, List.map_toArray, List.map_cons, List.map_nil, hx, run_bsBlk hb, Sem.run_bind, Sem.run_map, Sem.run_pure, Result.andThen_ok]
  exact hK _ _ (h _ (heap_alloc_last w _) (grown_below hg) (by simp))
theorem blkRoom (s x : Operand) (ho : op.op = .call { callee := .builtin .append, args := #[s, x], argTypes := #[42, 42] }) {g g2 n c : Nat} {fl b : List Int} (hk : Row TB w g (nums .u8 fl).toArray) (hk2 : Row TB w g2 (nums .u8 b).toArray) (hb : b.length = 64) (hfl : 64 * (n + 1) ≤ fl.length) (hc : n < c) (hs : a.eval s = .slice (some ⟨g, 0, none⟩) n c) (hx : a.eval x = .slice (some ⟨g2, 0, none⟩) 1 1) (hw : Region.wanted op (yielded ops a.tmps) = true)
    (h : ∀ w1, Row TB w1 g (nums .u8 (splice fl (64 * n) b)).toArray → w.grownBy w1 (some g) → wpList Try.prog ops Q rest (a.put op.dst (.slice (some ⟨g, 0, none⟩) (n + 1) c)) w1) : wpList Try.prog ops Q (op :: rest) a w := by
  refine wanted_step hw fun K hK => ?_
  have hi := infoB
  cases hq : Try.prog.info? 50 with
  | none => simp [hq] at hi
  | some ie =>
    simp only [hq, Option.map_some, Option.some.injEq, Prod.mk.injEq] at hi
    obtain ⟨h1, h2, h3⟩ := hi
    have hrun := run_append_room (P := Try.prog) w 42 op.type TB ie Try.underlying42 hq g n c (nums .u8 fl).toArray hk ⟨g2, 0, none⟩ 1 1 (nums .u8 b) (by rw [nums_length, h2, hb]) (fun j u hu => by
      rw [Addr.add_mid, Nat.zero_add]
      exact hk2.cell (by rw [List.getElem?_toArray]; exact hu)) (one_nums b) (by omega) (by rw [h2, nums_length, List.size_toArray, nums_length]; omega)
    rw [h2, nums_length, hb] at hrun
    have e1 : ((nums .u8 fl).toArray.toList.take (n * 64) ++ nums .u8 b ++ (nums .u8 fl).toArray.toList.drop (n * 64 + 64)).toArray = (nums .u8 (splice fl (64 * n) b)).toArray := by
      rw [← nums_splice, splice, nums_length, hb, Nat.mul_comm n 64, List.append_assoc]
    rw [e1] at hrun
    have hr1 : Row TB (w.setRow g (nums .u8 (splice fl (64 * n) b)).toArray) g (nums .u8 (splice fl (64 * n) b)).toArray := setRow_heap w g _ _ TB _ hk
    have hg1 := grown_setRow w g (nums .u8 (splice fl (64 * n) b)).toArray
    unfold Oper.wp
    simp [execOp, ho, resolve, invoke, builtin, hs, hx, hrun, Result.andThen]
    exact hK _ _ (h _ hr1 hg1)
/-- a place of a cell in memory -/
theorem plcLoad (x : Operand) (ho : op.op = .load 125 x) {g : Nat} {c : Ce} (hk : Row 127 w g (celL c).toArray) (hx : a.eval x = .pointer (some ⟨g, 0, none⟩)) (hw : Region.wanted op (yielded ops a.tmps) = true)
    (h : wpList Try.prog ops Q rest (a.put op.dst (.agg #[.int .i64 c.s, .int .i64 c.m])) w) : wpList Try.prog ops Q (op :: rest) a w := by
  refine val_step ?_ hw h
  have hr : w.rangeAt g 0 [.int .i64 c.s, .int .i64 c.m] := fun j v hv => by
    have hj : j < 2 := (List.getElem?_eq_some_iff.1 hv).1
    rw [Nat.zero_add]
    refine hk.cell ?_
    match j, hj with
    | 0, _ => exact hv
    | 1, _ => exact hv
  have hi : (Try.prog.info? 125).map (·.size) = some ([.int .i64 c.s, .int .i64 c.m] : List Value).length := by kernel_rfl
  unfold execOp
  simp only [ho, hx, Instr.loadAt, Instr.sureAddr, Sem.run_bind, Sem.run_map, Sem.run_pure, Result.andThen_ok, run_loadVar_mid w g 0 125 _ _ hr Try.underlying125 rfl hi]
/-- a cell's block in memory -/
theorem cblLoad (x : Operand) (ho : op.op = .load 50 x) {g : Nat} {s m : Int} {b : List Int} (hl : b.length = 64) (hk : Row 127 w g (celL ⟨s, m, b⟩).toArray) (hx : a.eval x = .pointer (some ⟨g, 2, none⟩)) (hw : Region.wanted op (yielded ops a.tmps) = true)
    (h : wpList Try.prog ops Q rest (a.put op.dst (blk b)) w) : wpList Try.prog ops Q (op :: rest) a w :=
  blkMid x ho hl (fun j v hv => hk.cell (by rw [List.getElem?_toArray, celL, show 2 + j = j + 1 + 1 by omega]; exact hv)) hx hw h
theorem celMid (x : Operand) (ho : op.op = .load 127 x) {g o : Nat} {c : Ce} (hl : c.b.length = 64) (hr : w.rangeAt g o (celL c)) (hx : a.eval x = .pointer (some ⟨g, o, none⟩)) (hw : Region.wanted op (yielded ops a.tmps) = true)
    (h : wpList Try.prog ops Q rest (a.put op.dst (cel c)) w) : wpList Try.prog ops Q (op :: rest) a w :=
  val_step (run_celMid x ho hl hr hx) hw h
theorem plcCopy (d s : Operand) (ho : op.op = .call { callee := .builtin .copy, args := #[d, s], argTypes := #[22, 22] }) {g off o4 dCap c : Nat} {fl ys : List Int} {A : Option Addr} (hk : Row TB w g (nums .u8 fl).toArray) (hd : a.eval d = .slice (some ⟨g, off, none⟩) 4 dCap) (hoff : off = o4) (hr : ReadsInt w .u8 A 2 ys) (hs : a.eval s = .slice A 2 c) (hfit : o4 + 4 ≤ fl.length) (hw : Region.wanted op (yielded ops a.tmps) = true)
    (h : ∀ w1, Row TB w1 g (nums .u8 (splice fl o4 ys)).toArray → w.grownBy w1 (some g) → wpList Try.prog ops Q rest (a.put op.dst (goInt 2)) w1) : wpList Try.prog ops Q (op :: rest) a w := by
  subst hoff
  refine F.rowCopy d s _ _ ho _ Try.underlying22 (by kernel_rfl) hk off 4 dCap hd hr hs hfit hw fun w1 h1 h2 => ?_
  rw [List.take_of_length_le (by rw [hr.1]; decide)] at h1
  exact h w1 h1 h2
theorem plcSet (x y : Operand) (ho : op.op = .store 5 x y) {g off o4 : Nat} {fl : List Int} (hk : Row TB w g (nums .u8 fl).toArray) (hx : a.eval x = .pointer (some ⟨g, off, none⟩)) (hoff : off = o4) (hlt : o4 < fl.length) (v : Int) (hy : a.eval y = .int .u8 v) (hw : Region.wanted op (yielded ops a.tmps) = true)
    (h : ∀ w1, Row TB w1 g (nums .u8 (fl.set o4 v)).toArray → w.grownBy w1 (some g) → wpList Try.prog ops Q rest (a.put op.dst undef) w1) : wpList Try.prog ops Q (op :: rest) a w := by
  subst hoff
  refine R.rowSet hw _ x y ho hk off (by rw [List.size_toArray, nums_length]; exact hlt) hx _ hy rfl rfl R.info_u8s fun w1 h1 h2 => ?_
  rw [nums_set] at h1
  exact h w1 h1 h2
theorem zero_cel (w : World) : (zeroValue 127).run Try.prog w = .ok (.agg (celL ⟨0, 0, zeros⟩).toArray) w := by kernel_rfl
theorem celStore (x y : Operand) (ho : op.op = .store 127 x y) {g : Nat} {c d : Ce} (hd : d.b.length = 64) (hk : Row 127 w g (celL d).toArray) (hx : a.eval x = .pointer (some ⟨g, 0, none⟩)) (hy : a.eval y = cel c) (hl : c.b.length = 64) (hw : Region.wanted op (yielded ops a.tmps) = true)
    (h : ∀ w1, Row 127 w1 g (celL c).toArray → w.grownBy w1 (some g) → wpList Try.prog ops Q rest (a.put op.dst undef) w1) : wpList Try.prog ops Q (op :: rest) a w :=
  R.rowStore hw _ x y ho hk hx hy (by rw [List.size_toArray]; exact info_cel66 hl) (by rw [List.size_toArray, List.size_toArray, celL_length hl, celL_length hd]) (by
    rw [Array.all_eq_true_iff_forall_mem]
    intro v hv
    exact one_celL c v (by simpa using hv)) fun w1 h1 h2 => h w1 h1 h2
end
end Go.Proofs.Ytdchcggllcgokaa.Y

namespace Go.Proofs.Ytdchcggllcgokaa.Y
open Go.RowKit Go.Proofs.Ytdchcggllcgokaa.L Go.Proofs.Ytdchcggllcgokaa.U Go.Proofs.Ytdchcggllcgokaa.R Go.Proofs.Ytdchcggllcgokaa.E Go.Proofs.YtdchcggllcgokaaW.PrintWords
set_option linter.unusedVariables false
set_option linter.unusedSimpArgs false
def hdN (n : Nat) : Nat := (n + 15) / 16
def place4 (c : Ce) : List Int := putb c.s.toNat 2 ++ [c.m, 0]
theorem place4_length (c : Ce) : (place4 c).length = 4 := by simp [place4, putb_length]
def rowP (l : List Ce) : List Int := (l.map place4).flatten
theorem rowP_length (l : List Ce) : (rowP l).length = 4 * l.length := by
  rw [rowP, flat_length 4 _ (fun v hv => by obtain ⟨c, _, rfl⟩ := List.mem_map.1 hv; exact place4_length c), List.length_map, Nat.mul_comm]
def rowB (l : List Ce) : List Int := (l.map (·.b)).flatten
theorem rowB_length {l : List Ce} (h : ∀ c ∈ l, c.b.length = 64) : (rowB l).length = 64 * l.length := by
  rw [rowB, flat_length 64 _ (fun v hv => by obtain ⟨c, hc, rfl⟩ := List.mem_map.1 hv; exact h c hc), List.length_map, Nat.mul_comm]
/-- the record's bytes when so many cells are laid -/
def FLq (l : List Ce) (q : Nat) : List Int := (rowP (l.take q) ++ Z (64 * hdN l.length - 4 * q)) ++ (rowB (l.take q) ++ Z (64 * (l.length - q)))
theorem take_len {α : Type} {l : List α} {q : Nat} (h : q ≤ l.length) : (l.take q).length = q := by rw [List.length_take]; omega
theorem FLq_length {l : List Ce} (h : ∀ c ∈ l, c.b.length = 64) {q : Nat} (hq : q ≤ l.length) : (FLq l q).length = 64 * (hdN l.length + l.length) := by
  have h1 : 4 * l.length ≤ 64 * hdN l.length := by rw [hdN]; omega
  rw [FLq, List.length_append, List.length_append, List.length_append, rowP_length, rowB_length (fun c hc => h c (List.mem_of_mem_take hc)), take_len hq, Z_length, Z_length]
  omega
theorem FLq_zero (l : List Ce) : FLq l 0 = Z (64 * (hdN l.length + l.length)) := by
  rw [FLq, show 64 * (hdN l.length + l.length) = (64 * hdN l.length - 4 * 0) + 64 * (l.length - 0) by omega, Z_add]
  rfl
theorem set_mid {α : Type} (a c : List α) (x v : α) (n : Nat) (hn : a.length = n) : (a ++ x :: c).set n v = a ++ v :: c := by
  subst hn
  rw [List.set_append_right _ _ (Nat.le_refl _), Nat.sub_self, List.set_cons_zero]
theorem splice_mid' {α : Type} (a b c d : List α) (n : Nat) (hn : a.length = n) (h : d.length = b.length) : splice (a ++ (b ++ c)) n d = a ++ (d ++ c) := by
  subst hn; exact splice_mid a b c d h
theorem FLq_next {l : List Ce} (h : ∀ c ∈ l, c.b.length = 64) {q : Nat} (hq : q < l.length) :
    splice ((splice (FLq l q) (4 * q) (putb l[q].s.toNat 2)).set (4 * q + 2) l[q].m) (64 * (hdN l.length + q)) l[q].b = FLq l (q + 1) := by
  have h1 : 4 * l.length ≤ 64 * hdN l.length := by rw [hdN]; omega
  have hP := rowP_length (l.take q)
  have hB := rowB_length (l := l.take q) (fun c hc => h c (List.mem_of_mem_take hc))
  rw [take_len (by omega)] at hP hB
  have hb := h l[q] (List.getElem_mem hq)
  have eP : rowP (l.take (q + 1)) = rowP (l.take q) ++ place4 l[q] := by
    rw [rowP, rowP, List.take_succ_eq_append_getElem hq, List.map_append, List.flatten_append]; simp
  have eB : rowB (l.take (q + 1)) = rowB (l.take q) ++ l[q].b := by
    rw [rowB, rowB, List.take_succ_eq_append_getElem hq, List.map_append, List.flatten_append]; simp
  obtain ⟨d, hd⟩ : ∃ d, 64 * hdN l.length - 4 * q = 2 + (1 + (1 + d)) := ⟨64 * hdN l.length - 4 * q - 4, by omega⟩
  obtain ⟨k, hk⟩ : ∃ k, l.length - q = k + 1 := ⟨l.length - q - 1, by omega⟩
  rw [FLq, FLq, eP, eB, hd, hk, show l.length - (q + 1) = k by omega, show 64 * hdN l.length - 4 * (q + 1) = d by omega, Z_add, Z_add, Z_add, show 64 * (k + 1) = 64 + 64 * k by omega, Z_add]
  generalize rowP (l.take q) = P at *
  generalize rowB (l.take q) = B at *
  generalize hy : putb l[q].s.toNat 2 = Y at *
  have hY : Y.length = 2 := by rw [← hy, putb_length]
  have e1 : (P ++ (Z 2 ++ (Z 1 ++ (Z 1 ++ Z d)))) ++ (B ++ (Z 64 ++ Z (64 * k))) = P ++ (Z 2 ++ ((0 : Int) :: ((Z 1 ++ Z d) ++ (B ++ (Z 64 ++ Z (64 * k)))))) := by
    simp [Z]
  rw [e1, splice_mid' P (Z 2) _ Y (4 * q) hP (by rw [hY, Z_length])]
  rw [← List.append_assoc P Y, set_mid (P ++ Y) _ 0 l[q].m (4 * q + 2) (by rw [List.length_append, hP, hY])]
  have e2 : P ++ Y ++ l[q].m :: (Z 1 ++ Z d ++ (B ++ (Z 64 ++ Z (64 * k)))) = (P ++ Y ++ l[q].m :: (Z 1 ++ Z d ++ B)) ++ (Z 64 ++ Z (64 * k)) := by
    simp only [List.append_assoc, List.cons_append]
  rw [e2, splice_mid' _ (Z 64) (Z (64 * k)) l[q].b _ (by simp only [List.length_append, List.length_cons, Z_length, hP, hY, hB]; omega) (by rw [hb, Z_length])]
  rw [place4, hy]
  simp [Z]
def mayL (l : List Ce) : Bool := l.all fun c => mayP c.s c.m
def errC (l : List Ce) : Int := if l.length = 0 ∨ mayL l = false then 2 else if 32 < l.length then 3 else 0
theorem mayP_nat {s m : Int} (h : mayP s m = true) : ∃ a b : Nat, s = a ∧ m = b ∧ a < 64 ∧ b < 16 := by
  have h2 := of_decide_eq_true h
  exact ⟨s.toNat, m.toNat, by omega, by omega, by omega, by omega⟩
theorem mayL_at {l : List Ce} (h : mayL l = true) {q : Nat} (hq : q < l.length) : mayP l[q].s l[q].m = true := by
  have h2 := List.all_eq_true.1 h l[q] (List.getElem_mem hq)
  exact h2
theorem mayL_of {l : List Ce} (h : ∀ q (hq : q < l.length), mayP l[q].s l[q].m = true) : mayL l = true := by
  refine List.all_eq_true.2 fun c hc => ?_
  obtain ⟨q, hq, rfl⟩ := List.getElem_of_mem hc
  exact h q hq
/-- what cells.Put returns -/
def PutR (l : List Ce) (b : Nat) (e : Ending) (W : World) : Prop := (errC l ≠ 0 ∧ e = .returned (.tuple #[.slice none 0 0, .int .i64 (errC l)])) ∨ (errC l = 0 ∧ ∃ g, e = .returned (.tuple #[.slice (some ⟨g, 0, none⟩) (hdN l.length + l.length) (hdN l.length + l.length), .int .i64 0]) ∧ b ≤ g ∧ Row TB W g (nums .u8 (FLq l l.length)).toArray)
theorem put2 {sn : Nat} (h : sn < 64) : ∀ w : World, Calls Try.prog 42 #[.int .u64 (sn : Int), .int .i64 2] w fun e w' => (∃ A c, e = .returned (.tuple #[.slice A 2 c, .int .i64 0]) ∧ ReadsInt w' .u8 A 2 (putb sn 2)) ∧ Below w.heap.size w w' := fun w => by
  refine (put_n (s := 2) (n := sn) (by omega) (by decide) (puts_ok (s := 2) (by decide) (by decide) (by omega)) w).mono ?_
  rintro e w' ⟨⟨A, c, he, ho⟩, hb⟩
  have h2 := ho.reads
  rw [putb_length] at he h2
  exact ⟨⟨A, c, he, h2⟩, hb⟩
set_option maxRecDepth 100000 in
set_option maxHeartbeats 4000000 in
theorem Put_any (A : Option Addr) (cap : Nat) (l : List Ce) (w : World) (HL : Hid (Cls w A l)) : Calls Try.prog 47 #[.slice A l.length cap] w fun e w' => PutR l w.heap.size e w' ∧ Below w.heap.size w w' := by
  have hcap := HL.out.cap
  have HB := Lib.hid (Below.refl w.heap.size w)
  by_cases h0 : l.length = 0
  · have f1 : (l.length == 0) = true := by rw [h0]; rfl
    have f2 : ((l.length : Int) == 0) = true := by rw [h0]; rfl
    have hE := Lib.hid (show errC l = 2 from if_pos (.inl h0))
    clear h0
    go_enter Try.func47, Try.ntmps47
    go_wp2
    go_ret2
    exact ⟨.inl ⟨by rw [hE.out]; decide, by rw [hE.out]; rfl⟩, HB.out⟩
  have f1 : (l.length == 0) = false := by rw [beq_eq_false_iff_ne]; exact h0
  have f2 : ((l.length : Int) == 0) = false := by rw [beq_eq_false_iff_ne]; omega
  have h1 : 0 < l.length := by omega
  clear h0
  go_enter Try.func47, Try.ntmps47
  go_wp2
  go_loopw [17] (fun i wr => ∃ q : Nat, q ≤ l.length ∧ i = .int .i64 (q : Int) ∧ Hid (∀ j (h : j < q) (hj : j < l.length), mayP l[j].s l[j].m = true) ∧ Hid (Below w.heap.size w wr)) (fun i _ => l.length - (intOf i).toNat)
  case atStart => exact ⟨0, Nat.zero_le _, rfl, Lib.hid (fun j h => absurd h (by omega)), HB⟩
  case round =>
    clear HB
    obtain ⟨q, hq, rfl, HA, HB⟩ := hrel
    have hi0 : (0 : Int) ≤ (q : Int) := by omega
    have lbh := HB.out.size
    by_cases hlt : q < l.length
    · obtain ⟨g, o, rfl, hg, HR, hb⟩ := (HL.out.below HB.out).at_ q hlt
      obtain ⟨z, hz⟩ : ∃ z, mayP l[q].s l[q].m = z := ⟨_, rfl⟩
      have HZ := Lib.hid hz
      obtain ⟨c, hc⟩ : ∃ c, c = l[q] := ⟨_, rfl⟩
      rw [← hc] at HR hb hz
      have HR := Lib.hid HR
      have HCl := Lib.hid hb
      have PM := Lib.hid (fun w => may_any c.s c.m w)
      rw [hz] at PM
      clear hb hz hc
      cases z with
      | true =>
        have tok0 : True := trivial
        go_wp2_with (first
          | (go_skip)
          | (refine celMid (.tmp 19) rfl HCl.out HR.out rfl rfl ?_)
          | (have _t := tok0; refine F.rowAlloc 127 rfl _ zero_cel rfl ?_; intro w1 hk hb hz1; replace HB := Lib.hid (below_ext HB.out hb); have K5 := Lib.hid hk; clear hk hb _t tok0)
          | (refine celStore (.tmp 5) (.tmp 20) rfl zeros_length K5.out rfl rfl HCl.out rfl ?_; intro w2 hk hg; replace HB := Lib.hid (below_at HB.out hg (by omega) K5.out.lt); replace K5 := Lib.hid hk; clear hk hg)
          | (refine plcLoad (.tmp 21) rfl K5.out rfl rfl ?_)
          | (go_at_call 117; refine (PM.out _).mono ?_; rintro e w3 ⟨rfl, hb⟩; replace HB := Lib.hid (below_ext HB.out hb); clear hb))
        go_roundw
        case rel =>
          have HA2 : Hid (∀ j (h : j < q + 1) (hj : j < l.length), mayP l[j].s l[j].m = true) := Lib.hid fun j h hj => by
            rcases Nat.lt_or_ge j q with h3 | h3
            · exact HA.out j h3 hj
            · obtain rfl : j = q := by omega
              exact HZ.out
          first
            | exact ⟨q + 1, by omega, by go_num, HA2, HB⟩
            | exact ⟨q + 1, by omega, by go_num, HA2⟩
        case measure => simp [intOf]; omega
      | false =>
        have hE := Lib.hid (show errC l = 2 from if_pos (.inr (by
          cases hm : mayL l with
          | false => rfl
          | true => exact absurd (mayL_at hm hlt) (by rw [HZ.out]; decide))))
        have tok0 : True := trivial
        go_wp2_with (first
          | (go_skip)
          | (refine celMid (.tmp 19) rfl HCl.out HR.out rfl rfl ?_)
          | (have _t := tok0; refine F.rowAlloc 127 rfl _ zero_cel rfl ?_; intro w1 hk hb hz1; replace HB := Lib.hid (below_ext HB.out hb); have K5 := Lib.hid hk; clear hk hb _t tok0)
          | (refine celStore (.tmp 5) (.tmp 20) rfl zeros_length K5.out rfl rfl HCl.out rfl ?_; intro w2 hk hg; replace HB := Lib.hid (below_at HB.out hg (by omega) K5.out.lt); replace K5 := Lib.hid hk; clear hk hg)
          | (refine plcLoad (.tmp 21) rfl K5.out rfl rfl ?_)
          | (go_at_call 117; refine (PM.out _).mono ?_; rintro e w3 ⟨rfl, hb⟩; replace HB := Lib.hid (below_ext HB.out hb); clear hb))
        go_ret2
        exact ⟨.inl ⟨by rw [hE.out]; decide, by rw [hE.out]; rfl⟩, HB.out⟩
    · obtain rfl : q = l.length := by omega
      have hm : mayL l = true := mayL_of fun j hj => HA.out j (by omega) hj
      have HM := Lib.hid hm
      clear hm HA
      by_cases h32 : 32 < l.length
      · have g1 : decide (32 < l.length) = true := by simpa using h32
        have g2 : decide ((32 : Int) < (l.length : Int)) = true := by simp; omega
        have hE := Lib.hid (show errC l = 3 by rw [errC, if_neg (fun h => by rcases h with h | h; omega; rw [HM.out] at h; exact absurd h (by decide)), if_pos h32])
        go_wp2
        go_ret2
        exact ⟨.inl ⟨by rw [hE.out]; decide, by rw [hE.out]; rfl⟩, HB.out⟩
      have g1 : decide (32 < l.length) = false := by simpa using h32
      have g2 : decide ((32 : Int) < (l.length : Int)) = false := by simp; omega
      have hE := Lib.hid (show errC l = 0 by rw [errC, if_neg (fun h => by rcases h with h | h; omega; rw [HM.out] at h; exact absurd h (by decide)), if_neg h32])
      have PH := Lib.hid (fun w => T.heads_any l.length (by omega) (by omega) w)
      have PS := Lib.hid (fun w => T.Size_any (l.length : Int) ⟨by omega, by omega⟩ w)
      obtain ⟨hh, hhd⟩ : ∃ hh, hh = hdN l.length := ⟨_, rfl⟩
      have hsz : T.sizeN (l.length : Int) = hh + l.length := by rw [T.sizeN, if_pos ⟨by omega, by omega⟩, hhd, hdN]; simp
      rw [hsz] at PS
      rw [show (l.length + 15) / 16 = hh by rw [hhd]; rfl] at PH
      have h16 : l.length ≤ 16 * hh ∧ hh ≤ 2 ∧ 16 * hh < l.length + 16 := by rw [hhd, hdN]; omega
      have F0 := Lib.hid (FLq_zero l)
      have FL := Lib.hid (fun q (hq : q ≤ l.length) => FLq_length HL.out.1 hq)
      have FN := Lib.hid (fun q (hq : q < l.length) => FLq_next HL.out.1 hq)
      rw [← hhd] at F0 FL FN
      have HH := Lib.hid hhd
      clear hhd hsz
      go_wp2_with (first
        | (go_skip)
        | (go_at_call 118; refine (PH.out _).mono ?_; rintro e w4 ⟨rfl, rfl⟩)
        | (go_at_call 49; refine (PS.out _).mono ?_; rintro e w5 ⟨rfl, rfl⟩)
        | (refine blkMake (.tmp 31) (.tmp 34) rfl hh (hh + l.length) rfl rfl (by omega) (by omega) rfl ?_; intro w6 hk hb hz6; have hG := HB.out.size; replace HB := Lib.hid (below_ext HB.out hb); have KR := Lib.hid hk; clear hk hb))
      obtain ⟨G, hGG⟩ : ∃ G, G = wr.heap.size := ⟨_, rfl⟩
      rw [← hGG] at KR hG hz6 ⊢
      clear hGG
      replace KR := Lib.hid (show Row TB w6 G (nums .u8 (FLq l 0)).toArray by rw [F0.out]; exact KR.out)
      go_loopw [6, 38] (fun x i wz => ∃ q : Nat, q ≤ l.length ∧ x = .slice (some ⟨G, 0, none⟩) (hh + q) (hh + l.length) ∧ i = .int .i64 (q : Int) ∧ Hid (Row TB wz G (nums .u8 (FLq l q)).toArray) ∧ Hid (Below w.heap.size w wz)) (fun _ i _ => l.length - (intOf i).toNat)
      case atStart => exact ⟨0, Nat.zero_le _, rfl, rfl, KR, HB⟩
      case round =>
        clear KR HB
        obtain ⟨q, hq, rfl, rfl, KR, HB⟩ := hrel
        have hi0 : (0 : Int) ≤ (q : Int) := by omega
        have lbh := HB.out.size
        have lbg := KR.out.lt
        by_cases hlt : q < l.length
        · obtain ⟨g, o, rfl, hg, HR, hb⟩ := (HL.out.below HB.out).at_ q hlt
          obtain ⟨sn, mn, e1, e2, s64, m16⟩ := mayP_nat (mayL_at HM.out hlt)
          have hN := FN.out q hlt
          have hF := FL.out q hq
          obtain ⟨c, hc⟩ : ∃ c, c = l[q] := ⟨_, rfl⟩
          rw [← hc] at HR hb e1 e2 hN
          clear hc
          obtain ⟨cs, cm, cb⟩ := c
          simp only at e1 e2 hb
          subst e1 e2
          simp only [Int.toNat_natCast] at hN
          have HR := Lib.hid HR
          have HCl := Lib.hid hb
          have hp2 := putb_length sn 2
          have hL2 : (splice (FLq l q) (4 * q) (putb sn 2)).length = 64 * (hh + l.length) := by rw [length_splice _ _ _ (by rw [hp2]; omega)]; exact hF
          have hL3 : ((splice (FLq l q) (4 * q) (putb sn 2)).set (4 * q + 2) (mn : Int)).length = 64 * (hh + l.length) := by rw [List.length_set]; exact hL2
          have HF := Lib.hid hF
          have HL2 := Lib.hid hL2
          have HL3 := Lib.hid hL3
          have HN := Lib.hid hN
          clear hN hF hL2 hL3 hb hp2
          obtain ⟨a, b, hb16, hab⟩ : ∃ a b : Nat, b < 16 ∧ q = 16 * a + b := ⟨q / 16, q % 16, Nat.mod_lt _ (by decide), by omega⟩
          have e45 : (q : Int).tdiv 16 = (a : Int) := by rw [Int.tdiv_eq_ediv_of_nonneg (by omega)]; omega
          have e48 : (q : Int).tmod 16 = (b : Int) := by rw [Int.tmod_eq_emod_of_nonneg (by omega)]; omega
          have hah : a < hh + q := by omega
          have HQ := Lib.hid hab
          clear hab
          have tok0 : True := trivial
          go_wp2_with (first
            | (go_skip)
            | (refine celMid (.tmp 41) rfl HCl.out HR.out rfl rfl ?_)
            | (have _t := tok0; refine F.rowAlloc 127 rfl _ zero_cel rfl ?_; intro w11 hk hb hz1; replace KR := Lib.hid (KR.out.below hb); replace HB := Lib.hid (below_ext HB.out hb); have K8 := Lib.hid hk; clear hk hb _t tok0)
            | (refine celStore (.tmp 8) (.tmp 42) rfl zeros_length K8.out rfl rfl HCl.out rfl ?_; intro w12 hk hg; replace KR := Lib.hid (KR.out.grown hg (by omega)); replace HB := Lib.hid (below_at HB.out hg (by omega) K8.out.lt); replace K8 := Lib.hid hk; clear hk hg)
            | (refine blkFrom (.tmp 46) (.tmp 49) rfl rfl _ rfl (k := b * 4) (by omega) (by omega) rfl ?_)
            | (refine F.rowCell (v := .int .i64 (sn : Int)) _ (.tmp 54) rfl (K8.out.cell (o := 0) rfl) rfl agg_int rfl ?_)
            | (go_at_call 42; refine (put2 s64 _).mono ?_; rintro e w13 ⟨⟨A2, c2, rfl, r2⟩, hb⟩; have R2 := Lib.hid r2; replace KR := Lib.hid (KR.out.below hb); replace K8 := Lib.hid (K8.out.below hb); replace HB := Lib.hid (below_ext HB.out hb); clear hb r2)
            | (refine plcCopy (.tmp 60) (.tmp 61) rfl KR.out rfl (o4 := 4 * q) (by have := HQ.out; omega) R2.out rfl (by have := HF.out; omega) rfl ?_; intro w14 hk hg; replace K8 := Lib.hid (K8.out.grown hg (by omega)); replace HB := Lib.hid (below_at HB.out hg (by omega) KR.out.lt); replace KR := Lib.hid hk; clear hk hg)
            | (refine F.rowCell (v := .int .i64 (mn : Int)) _ (.tmp 65) rfl (K8.out.cell (o := 1) rfl) rfl agg_int rfl ?_)
            | (refine plcSet (.tmp 68) (.tmp 67) rfl KR.out rfl (o4 := 4 * q + 2) (by have := HQ.out; omega) (by have := HL2.out; omega) _ rfl rfl ?_; intro w15 hk hg; replace K8 := Lib.hid (K8.out.grown hg (by omega)); replace HB := Lib.hid (below_at HB.out hg (by omega) KR.out.lt); replace KR := Lib.hid hk; clear hk hg)
            | (refine cblLoad (.tmp 70) rfl HCl.out K8.out rfl rfl ?_)
            | (refine blkBuild1 (.tmp 71) rfl HCl.out rfl rfl ?_; intro w16 hk hb hz16; replace KR := Lib.hid (KR.out.below hb); replace HB := Lib.hid (below_ext HB.out hb); have K9 := Lib.hid hk; clear hk hb)
            | (refine blkRoom (.tmp 69) (.tmp 72) rfl KR.out K9.out HCl.out (by have := HL3.out; omega) (by omega) rfl rfl rfl ?_; intro w17 hk hg; replace HB := Lib.hid (below_at HB.out hg (by omega) KR.out.lt); replace KR := Lib.hid hk; clear hk hg))
          go_roundw
          case rel =>
            have KN := KR.out
            rw [HN.out] at KN
            first
              | exact ⟨q + 1, by omega, rfl, by go_num, Lib.hid KN, HB⟩
              | exact ⟨q + 1, by omega, by go_num, Lib.hid KN, HB⟩
              | exact ⟨q + 1, by omega, by go_num, Lib.hid KN⟩
              | exact ⟨q + 1, by omega, rfl, by go_num, Lib.hid KN⟩
          case measure => simp [intOf]; omega
        · obtain rfl : q = l.length := by omega
          go_wp2
          go_ret2
          exact ⟨.inr ⟨hE.out, G, by rw [← HH.out]; rfl, hG, KR.out⟩, HB.out⟩
end Go.Proofs.Ytdchcggllcgokaa.Y

namespace Go.Proofs.Ytdchcggllcgokaa.Y
open Go.RowKit Go.Proofs.Ytdchcggllcgokaa.L Go.Proofs.Ytdchcggllcgokaa.U Go.Proofs.Ytdchcggllcgokaa.R Go.Proofs.Ytdchcggllcgokaa.E Go.Proofs.YtdchcggllcgokaaW.PrintWords
set_option linter.unusedVariables false
set_option linter.unusedSimpArgs false
/-- a place's two cells -/
def plL (s m : Int) : List Value := [.int .i64 s, .int .i64 m]
theorem row_range {T : TypeId} {W : World} {g : Nat} {l : List Value} (h : Row T W g l.toArray) : W.rangeAt g 0 l := fun j v hv => by
  rw [Nat.zero_add]; exact h.cell (by rw [List.getElem?_toArray]; exact hv)
theorem row_there {T : TypeId} {W : World} {g n : Nat} {l : List Value} (h : Row T W g l.toArray) (hn : l.length = n) : W.there g 0 n := fun j hj => by
  rw [Nat.zero_add]
  exact ⟨by rw [h.cell (o := j) (v := l[j]) (by rw [List.getElem?_toArray, List.getElem?_eq_getElem (by omega)])]; rfl, h.free⟩
theorem there_below {W W1 : World} {g o n : Nat} (h : W.there g o n) (hg : g < W.heap.size) (hb : Below W.heap.size W W1) : W1.there g o n := fun j hj => by
  obtain ⟨h1, h2⟩ := h j hj
  exact ⟨by rw [hb.cell (p := ⟨g, o + j, none⟩) hg]; exact h1, by rw [hb.frozen (p := ⟨g, o + j, none⟩) hg]; exact h2⟩
theorem below_setCells {B b : Nat} {w : World} (hB : B ≤ b) : ∀ (vs : List Value) (o : Nat) (W : World), Below B w W → Below B w (W.setCells b o vs)
  | [], _, _, h => h
  | v :: r, o, W, h => by
    rw [World.setCells]
    exact below_setCells hB r (o + 1) _ (h.setCell (p := ⟨b, o, none⟩) hB v)
theorem size_setCells {b : Nat} : ∀ (vs : List Value) (o : Nat) (W : World), (W.setCells b o vs).heap.size = W.heap.size
  | [], _, _ => rfl
  | v :: r, o, W => by
    rw [World.setCells, size_setCells r (o + 1)]
    simp [World.setCell]
/-- what stands in a cell -/
def cv (W : World) (b o : Nat) : Value := (W.cell? ⟨b, o, none⟩).getD undef
theorem cv_of {W : World} {b o : Nat} (h : (W.cell? ⟨b, o, none⟩).isSome = true) : W.cell? ⟨b, o, none⟩ = some (cv W b o) := by
  obtain ⟨v, hv⟩ := Option.isSome_iff_exists.1 h
  rw [cv, hv]; rfl
theorem cv_at {W : World} {b o : Nat} {v : Value} (h : W.cell? ⟨b, o, none⟩ = some v) : W.cell? ⟨b, o, none⟩ = some (cv W b o) := cv_of (by rw [h]; rfl)
theorem S_step {w W W1 : World} {n g b gb ob : Nat} {u0 u1 u : Value} (hg : g < n) (hb0 : b < n) (hgb : gb < n) (h : W.cell? ⟨g, 0, none⟩ = some u0 ∧ W.cell? ⟨g, 1, none⟩ = some u1 ∧ W.cell? ⟨gb, ob, none⟩ = some u ∧ W.cell? ⟨b, 0, none⟩ = some (cv W b 0) ∧ W.cell? ⟨b, 1, none⟩ = some (cv W b 1) ∧ W.frozen? ⟨b, 0, none⟩ = false ∧ W.frozen? ⟨b, 1, none⟩ = false ∧ n ≤ W.heap.size ∧ Below w.heap.size w W) (hb : Below W.heap.size W W1) :
    W1.cell? ⟨g, 0, none⟩ = some u0 ∧ W1.cell? ⟨g, 1, none⟩ = some u1 ∧ W1.cell? ⟨gb, ob, none⟩ = some u ∧ W1.cell? ⟨b, 0, none⟩ = some (cv W1 b 0) ∧ W1.cell? ⟨b, 1, none⟩ = some (cv W1 b 1) ∧ W1.frozen? ⟨b, 0, none⟩ = false ∧ W1.frozen? ⟨b, 1, none⟩ = false ∧ n ≤ W1.heap.size ∧ Below w.heap.size w W1 := by
  obtain ⟨h0, h1, h3, s0, s1, f0, f1, h5, h6⟩ := h
  have hz := hb.size
  have hbb : b < W.heap.size := by omega
  exact ⟨by rw [hb.cell (p := ⟨g, 0, none⟩) (by show g < _; omega)]; exact h0, by rw [hb.cell (p := ⟨g, 1, none⟩) (by show g < _; omega)]; exact h1, by rw [hb.cell (p := ⟨gb, ob, none⟩) (by show gb < _; omega)]; exact h3, cv_of (by rw [hb.cell (p := ⟨b, 0, none⟩) hbb, s0]; rfl), cv_of (by rw [hb.cell (p := ⟨b, 1, none⟩) hbb, s1]; rfl), by rw [hb.frozen (p := ⟨b, 0, none⟩) hbb]; exact f0, by rw [hb.frozen (p := ⟨b, 1, none⟩) hbb]; exact f1, by omega, below_ext h6 hb⟩
theorem S_store {w W : World} {n g b gb ob : Nat} {u0 u1 u : Value} (x y : Value) (hne : g ≠ b) (hne2 : gb ≠ b) (hB : w.heap.size ≤ b) (h : W.cell? ⟨g, 0, none⟩ = some u0 ∧ W.cell? ⟨g, 1, none⟩ = some u1 ∧ W.cell? ⟨gb, ob, none⟩ = some u ∧ W.cell? ⟨b, 0, none⟩ = some (cv W b 0) ∧ W.cell? ⟨b, 1, none⟩ = some (cv W b 1) ∧ W.frozen? ⟨b, 0, none⟩ = false ∧ W.frozen? ⟨b, 1, none⟩ = false ∧ n ≤ W.heap.size ∧ Below w.heap.size w W) :
    ((W.setCell ⟨b, 0, none⟩ x).setCell ⟨b, 1, none⟩ y).cell? ⟨g, 0, none⟩ = some u0 ∧ ((W.setCell ⟨b, 0, none⟩ x).setCell ⟨b, 1, none⟩ y).cell? ⟨g, 1, none⟩ = some u1 ∧ ((W.setCell ⟨b, 0, none⟩ x).setCell ⟨b, 1, none⟩ y).cell? ⟨gb, ob, none⟩ = some u ∧ ((W.setCell ⟨b, 0, none⟩ x).setCell ⟨b, 1, none⟩ y).cell? ⟨b, 0, none⟩ = some (cv ((W.setCell ⟨b, 0, none⟩ x).setCell ⟨b, 1, none⟩ y) b 0) ∧ ((W.setCell ⟨b, 0, none⟩ x).setCell ⟨b, 1, none⟩ y).cell? ⟨b, 1, none⟩ = some (cv ((W.setCell ⟨b, 0, none⟩ x).setCell ⟨b, 1, none⟩ y) b 1) ∧ ((W.setCell ⟨b, 0, none⟩ x).setCell ⟨b, 1, none⟩ y).frozen? ⟨b, 0, none⟩ = false ∧ ((W.setCell ⟨b, 0, none⟩ x).setCell ⟨b, 1, none⟩ y).frozen? ⟨b, 1, none⟩ = false ∧ n ≤ ((W.setCell ⟨b, 0, none⟩ x).setCell ⟨b, 1, none⟩ y).heap.size ∧ Below w.heap.size w ((W.setCell ⟨b, 0, none⟩ x).setCell ⟨b, 1, none⟩ y) := by
  obtain ⟨h0, h1, h3, s0, s1, f0, f1, h5, h6⟩ := h
  have far : ∀ (q o : Nat), q ≠ b → ((W.setCell ⟨b, 0, none⟩ x).setCell ⟨b, 1, none⟩ y).cell? ⟨q, o, none⟩ = W.cell? ⟨q, o, none⟩ := fun q o hq => by
    rw [World.cell?_setCell_far _ _ _ _ (fun e => hq e.symm), World.cell?_setCell_far _ _ _ _ (fun e => hq e.symm)]
  exact ⟨by rw [far _ _ hne]; exact h0, by rw [far _ _ hne]; exact h1, by rw [far _ _ hne2]; exact h3, (by obtain ⟨_, e1⟩ := cell?_setCell_some (p := ⟨b, 0, none⟩) (x := x) s0; obtain ⟨_, e2⟩ := cell?_setCell_some (p := ⟨b, 1, none⟩) (x := y) e1; exact cv_at e2), (by obtain ⟨_, e1⟩ := cell?_setCell_some (p := ⟨b, 0, none⟩) (x := x) s1; obtain ⟨_, e2⟩ := cell?_setCell_some (p := ⟨b, 1, none⟩) (x := y) e1; exact cv_at e2), by rw [World.frozen?_setCell, World.frozen?_setCell]; exact f0, by rw [World.frozen?_setCell, World.frozen?_setCell]; exact f1, by simpa [World.setCell] using h5, (h6.setCell (p := ⟨b, 0, none⟩) hB x).setCell (p := ⟨b, 1, none⟩) hB y⟩
theorem ret_place {fn : Func} {p u : Tmp} (h : fn.results = #[.cell p 125, .tmp u]) (tmps : Array Value) (w : World) {g : Nat} {l : List Value} (hl : l.length = 2) (hk : w.rangeAt g 0 l) (hp : tmps.getD p undef = .pointer (some ⟨g, 0, none⟩)) {v : Value} (hv : tmps.getD u undef = v) :
    (results fn tmps).run Try.prog w = .ok (.tuple #[.agg l.toArray, v]) w := by
  subst hv
  have hp' : tmps[p]?.getD undef = .pointer (some ⟨g, 0, none⟩) := by simpa using hp
  have hi : (Try.prog.info? 125).map (·.size) = some l.length := by rw [hl]; kernel_rfl
  have hr := run_loadVar_mid (P := Try.prog) w g 0 125 l _ hk Try.underlying125 rfl hi
  simp [results, h, hp', asAddr, hr]
/-- bytes of a block of a slice -/
theorem rng_sub {W : World} {g o k n : Nat} {b : List Int} (h : W.rangeAt g o (nums .u8 b)) (hk : k + n ≤ b.length) (hm : b.length ≤ 9223372036854775807) : ReadsInt W .u8 (some ⟨g, o + k, none⟩) n ((b.drop k).take n) :=
  ⟨by rw [List.length_take, List.length_drop]; omega, by omega, fun _ => ⟨_, rfl, fun j hj => by
    rw [Addr.add_mid, Nat.add_assoc]
    refine h (k + j) _ ?_
    have e : ((b.drop k).take n).getD j 0 = b[k + j] := by
      rw [List.getD_eq_getElem?_getD, List.getElem?_take, if_pos hj, List.getElem?_drop, List.getElem?_eq_getElem (by omega), Option.getD_some]
    rw [e]
    simp [nums, List.getElem?_eq_getElem (show k + j < b.length by omega)]⟩⟩
theorem rng_cell {W : World} {g o k : Nat} {b : List Int} (h : W.rangeAt g o (nums .u8 b)) (hk : k < b.length) : W.cell? ⟨g, o + k, none⟩ = some (.int .u8 (rd b (k : Int))) := by
  refine h k _ ?_
  simp [nums, rd, List.getD_eq_getElem?_getD, List.getElem?_eq_getElem hk]
def zeroPl : Array Value := #[.int .i64 0, .int .i64 0]
theorem zero_pl (w : World) : (zeroValue 125).run Try.prog w = .ok (.agg (plL 0 0).toArray) w := by kernel_rfl
theorem info_pl (s m : Int) : (Try.prog.info? 125).map (·.size) = some (plL s m).length := by
  rw [show (plL s m).length = 2 from rfl]; kernel_rfl
theorem plL_length (s m : Int) : (plL s m).length = 2 := rfl
theorem one_plL (s m : Int) : ∀ v ∈ plL s m, v.oneCell' = true := fun v hv => by
  simp only [plL, List.mem_cons, List.not_mem_nil, or_false] at hv
  rcases hv with rfl | rfl <;> rfl
theorem one_pl (s m : Int) : (plL s m).toArray.all (·.oneCell') = true := by
  rw [Array.all_eq_true_iff_forall_mem]
  intro v hv
  exact one_plL s m v (by simpa using hv)
section
variable {ops : Array Oper} {rest : List Oper} {op : Oper} {a : Act} {w : World} {Q : Exit → Act → World → Prop}
theorem plcBuild (x y : Operand) (ho : op.op = .build 125 #[(0, x), (1, y)]) {s m : Int} (hx : a.eval x = .int .i64 s) (hy : a.eval y = .int .i64 m) (hw : Region.wanted op (yielded ops a.tmps) = true) (h : wpList Try.prog ops Q rest (a.put op.dst (.agg (plL s m).toArray)) w) : wpList Try.prog ops Q (op :: rest) a w := by
  refine wanted_step hw fun K hK => ?_
  unfold Oper.wp execOp
  have hrun : (Instr.build 125 #[(0, .int .i64 s), (1, .int .i64 m)]).run Try.prog w = .ok (.agg (plL s m).toArray) w := by kernel_rfl
  simp only [ho, List.map_toArray, List.map_cons, List.map_nil, hx, hy, hrun, Sem.run_map, Sem.run_bind, Result.andThen_ok, Sem.run_pure]
  exact hK _ _ h
end
set_option maxRecDepth 100000 in
set_option maxHeartbeats 4000000 in
theorem read_T (A : Option Addr) (cap : Nat) (l : List (List Int)) (i a b : Nat) (hb16 : b < 16) (hi : i < 9223372036854775807) (hab : Hid (i = 16 * a + b)) (hal : a < l.length) (bk : List Int) (hbk : Hid (bk.length = 64)) (v m z : Nat) (hv : v < 65536) (hm : m < 256) (hz : z < 256)
    (PG : Hid (∀ (A : Option Addr) (c : Nat) (w : World), 4 ≤ c → c ≤ 9223372036854775807 → ReadsInt w .u8 A 4 ((bk.drop (b * 4)).take 4) → Calls Try.prog 44 #[.slice A 4 c, .int .i64 0, .int .i64 2] w fun e w' => e = .returned (.tuple #[.int .u64 (v : Int), .int .i64 0]) ∧ Below w.heap.size w w'))
    (PM : Hid (∀ w : World, Calls Try.prog 117 #[.agg #[.int .i64 (v : Int), .int .i64 (m : Int)]] w fun e w' => e = .returned (.bool true) ∧ Below w.heap.size w w'))
    (h2 : Hid (rd bk ((b * 4 + 2 : Nat) : Int) = (m : Int))) (h3 : Hid (rd bk ((b * 4 + 3 : Nat) : Int) = (z : Int))) (hcap : l.length ≤ 9223372036854775807)
    (g o : Nat) (hA : A = some ⟨g, o, none⟩) (w : World) (hg : g < w.heap.size) (HR : Hid (w.rangeAt g (o + a * 64) (nums .u8 bk))) :
    Calls Try.prog 122 #[.slice A l.length cap, .int .i64 (i : Int)] w fun e w' => e = .returned (.tuple #[.agg (plL (v : Int) (m : Int)).toArray, .bool ((z : Int) == 0)]) ∧ Below w.heap.size w w' := by
  subst hA
  have HB := Lib.hid (Below.refl w.heap.size w)
  have e45 : (i : Int).tdiv 16 = (a : Int) := by rw [Int.tdiv_eq_ediv_of_nonneg (by omega)]; have := hab.out; omega
  have e48 : (i : Int).tmod 16 = (b : Int) := by rw [Int.tmod_eq_emod_of_nonneg (by omega)]; have := hab.out; omega
  have tok0 : True := trivial
  have HG := Lib.hid hg
  go_enter Try.func122, Try.ntmps122
  go_wp2_with (first
    | (go_skip)
    | (have _t := tok0; refine F.rowAlloc 125 rfl _ zero_pl rfl ?_; intro w1 hk hb hz1; replace HB := Lib.hid (below_ext HB.out hb); have K4 := Lib.hid hk; have hz1b := hb.size; clear hk hb; have tok1 : True := trivial; clear _t tok0)
    | (refine blkFrom (.tmp 13) (.tmp 16) rfl rfl _ rfl (k := b * 4) (by omega) (by omega) rfl ?_)
    | (go_at_call 44; refine (PG.out _ _ _ (by omega) (by omega) (rng_sub (fun j u hu => by rw [HB.out.cell (p := ⟨g, o + a * 64 + j, none⟩) HG.out]; exact HR.out j u hu) (by rw [hbk.out]; omega) (by rw [hbk.out]; decide))).mono ?_; rintro e w2 ⟨rfl, hb⟩; replace K4 := Lib.hid (K4.out.below hb); replace HB := Lib.hid (below_ext HB.out hb); have hz2 := hb.size; clear hb)
    | (refine F.rowCell (v := .int .u8 (m : Int)) _ (.tmp 27) rfl (by have h := rng_cell (k := b * 4 + 2) HR.out (by rw [hbk.out]; omega); rw [h2.out] at h; rw [HB.out.cell HG.out]; exact h) rfl R.agg_u8 rfl ?_)
    | (refine plcBuild (.tmp 25) (.tmp 29) rfl (s := (v : Int)) (m := (m : Int)) rfl rfl rfl ?_)
    | (have _t := tok1; refine F.rowAlloc 125 rfl _ zero_pl rfl ?_; intro w3 hk hb hz3; replace K4 := Lib.hid (K4.out.below hb); replace HB := Lib.hid (below_ext HB.out hb); have K9 := Lib.hid hk; clear hk hb; have tok2 : True := trivial; clear _t tok1)
    | (refine F.rowStore (cs := (plL (v : Int) (m : Int)).toArray) 125 (.tmp 9) (.tmp 30) rfl K9.out rfl rfl (info_pl _ _) rfl (one_pl _ _) rfl ?_; intro w4 hk hg2; replace K4 := Lib.hid (K4.out.grown hg2 (by omega)); replace HB := Lib.hid (below_at HB.out hg2 (by omega) K9.out.lt); replace K9 := Lib.hid hk; have hz4 := hg2.size; clear hk hg2))
  have c0 : w4.cell? ⟨w2.heap.size, 0, none⟩ = some (.int .i64 (v : Int)) := K9.out.cell (o := 0) rfl
  have c1 : w4.cell? ⟨w2.heap.size, 1, none⟩ = some (.int .i64 (m : Int)) := K9.out.cell (o := 1) rfl
  have s0 : w4.drew.cell? ⟨w.heap.size, 0, none⟩ = some (cv w4.drew w.heap.size 0) := cv_at (K4.out.cell (o := 0) (v := .int .i64 0) rfl)
  have s1 : w4.drew.cell? ⟨w.heap.size, 1, none⟩ = some (cv w4.drew w.heap.size 1) := cv_at (K4.out.cell (o := 1) (v := .int .i64 0) rfl)
  have f0 : w4.frozen? ⟨w.heap.size, 0, none⟩ = false := K4.out.free (o := 0)
  have f1 : w4.frozen? ⟨w.heap.size, 1, none⟩ = false := K4.out.free (o := 1)
  have c3 : w4.cell? ⟨g, o + a * 64 + b * 4 + 3, none⟩ = some (.int .u8 (z : Int)) := by
    have h := rng_cell (k := b * 4 + 3) HR.out (by rw [hbk.out]; omega)
    rw [h3.out] at h
    rw [show o + a * 64 + b * 4 + 3 = o + a * 64 + (b * 4 + 3) by omega]
    rw [HB.out.cell HG.out]
    exact h
  have qu := Try.underlying125
  have qi := info_pl (v : Int) (m : Int)
  have ql := plL_length (v : Int) (m : Int)
  have q1 := one_plL (v : Int) (m : Int)
  have L9 := Lib.hid K9.out.lt
  have L4 := Lib.hid K4.out.lt
  have LG := Lib.hid (show g < w4.heap.size by omega)
  have HNE := Lib.hid (show w2.heap.size ≠ w.heap.size by omega)
  have HNE2 := Lib.hid (show g ≠ w.heap.size by omega)
  have bd : Below w.heap.size w w4.drew := below_drewN HB.out 1
  have bn : w4.heap.size ≤ w4.drew.heap.size := Nat.le_refl _
  clear hz1 hz1b hz2 hz3 hz4 h2 h3 PG e45 e48
  go_region_held3 (fun w' => w'.cell? ⟨w2.heap.size, 0, none⟩ = some (.int .i64 (v : Int)) ∧ w'.cell? ⟨w2.heap.size, 1, none⟩ = some (.int .i64 (m : Int)) ∧ w'.cell? ⟨g, o + a * 64 + b * 4 + 3, none⟩ = some (.int .u8 (z : Int)) ∧ w'.cell? ⟨w.heap.size, 0, none⟩ = some (cv w' w.heap.size 0) ∧ w'.cell? ⟨w.heap.size, 1, none⟩ = some (cv w' w.heap.size 1) ∧ w'.frozen? ⟨w.heap.size, 0, none⟩ = false ∧ w'.frozen? ⟨w.heap.size, 1, none⟩ = false ∧ w4.heap.size ≤ w'.heap.size ∧ Below w.heap.size w w')
    (first | assumption | exact S_store _ _ HNE.out HNE2.out (Nat.le_refl _) (by assumption) | exact S_step L9.out L4.out LG.out (by assumption) hb5 | go_keep_ranges | go_keep)
    (first
      | (go_at_call 117; refine (PM.out _).mono ?_; rintro e w5 ⟨rfl, hb5⟩))
  rename_i hH
  obtain ⟨_, _, _, _, _, _, _, _, hF⟩ := hH
  have HF := Lib.hid hF
  have K5 := K4.out.below (below_ext (below_drewN (Below.refl w4.heap.size w4) 1) hb5)
  have r1 := setCell_row (o := 0) (v := .int .i64 (v : Int)) K5
  have r2 := setCell_row (o := 1) (v := .int .i64 (m : Int)) r1.1
  have KF := Lib.hid (show Row 125 ((w5.setCell ⟨w.heap.size, 0, none⟩ (.int .i64 (v : Int))).setCell ⟨w.heap.size, 1, none⟩ (.int .i64 (m : Int))) w.heap.size (plL (v : Int) (m : Int)).toArray from r2.1)
  clear hF K5 r1 r2 c0 c1 c3 s0 s1 f0 f1 bd bn qu qi ql q1 hb5
  generalize (w5.setCell ⟨w.heap.size, 0, none⟩ (.int .i64 (v : Int))).setCell ⟨w.heap.size, 1, none⟩ (.int .i64 (m : Int)) = w6 at KF HF ⊢
  go_wp2
  exact bodyPost_ret (v := .tuple #[.agg (plL (v : Int) (m : Int)).toArray, .bool ((z : Int) == 0)]) (ret_place rfl _ _ (plL_length _ _) (row_range KF.out) rfl rfl) rfl ⟨rfl, HF.out⟩
end Go.Proofs.Ytdchcggllcgokaa.Y
