/-
  super.body$1 and ashlarref08.laid: bytes are laid behind others. super.body: the walk. ashlarref08.body: the walk. The bytes of a superblock; super.Put, ashlarref08.Put: the walks, and whole.
-/
import Derived.Test.YtdchcggllcgokaaSqI2
import Derived.Test.YtdchcggllcgokaaSpL
import Derived.Test.YtdchcggllcgokaaSpC
namespace Go.Proofs.Ytdchcggllcgokaa.Q
open Go.RowKit Go.Proofs.Ytdchcggllcgokaa.L Go.Proofs.Ytdchcggllcgokaa.U Go.Proofs.Ytdchcggllcgokaa.E Go.Proofs.Ytdchcggllcgokaa.R Go.Proofs.YtdchcggllcgokaaW.PrintWords
set_option linter.unusedVariables false
set_option linter.unusedSimpArgs false
abbrev TS : TypeId := 22
theorem agg_sl (w : World) : (isAgg 22).run Try.prog w = .ok false w := by kernel_rfl
theorem info_sl : (Try.prog.info? 22).map (·.size) = some 1 := by kernel_rfl
theorem zero_sl (w : World) : (zeroValue 22).run Try.prog w = .ok (.slice none 0 0) w := by kernel_rfl
theorem Row.belowB {T : TypeId} {W W1 : World} {b g : Nat} {cs : Array Value} (h : Row T W g cs) (hb : Below b W W1) (hg : g < b) : Row T W1 g cs := (hb.block g hg).trans h
theorem Row.grown_any {T : TypeId} {W W1 : World} {g : Nat} {cs : Array Value} {o : Option Nat} (h : Row T W g cs) (hg : W.grownBy W1 o) (hne : some g ≠ o) : Row T W1 g cs := blk_grown h hg hne
section
variable {ops : Array Oper} {rest : List Oper} {op : Oper} {a : Act} {w : World} {Q : Exit → Act → World → Prop}
theorem slAlloc (ho : op.op = .alloc 22) (hw : Region.wanted op (yielded ops a.tmps) = true)
    (h : ∀ w1, Row 22 w1 w.heap.size #[.slice none 0 0] → Below w.heap.size w w1 → w1.heap.size = w.heap.size + 1 → wpList Try.prog ops Q rest (a.put op.dst (.pointer (some ⟨w.heap.size, 0, none⟩))) w1) : wpList Try.prog ops Q (op :: rest) a w := by
  refine wanted_step hw fun K hK => ?_
  have := h (w.alloc (.cells #[.slice none 0 0] 22)) (heap_alloc_last w _) (grown_below (World.grownBy_alloc w _ _)) (by simp)
  unfold Oper.wp execOp
  simp only [ho, Instr.alloc, newVar, newRow, Value.cells, Sem.run_bind, Sem.run_pure, Sem.run_map, Result.andThen_ok, zero_sl, run_newObj_alloc]
  exact hK _ _ this
theorem stsAll (x : Operand) (ho : op.op = .slice 70 x none none none) {g o : Nat} (hx : a.eval x = .pointer (some ⟨g, o, none⟩)) (hw : Region.wanted op (yielded ops a.tmps) = true)
    (h : wpList Try.prog ops Q rest (a.put op.dst (.slice (some ⟨g, o, none⟩) 16 16)) w) : wpList Try.prog ops Q (op :: rest) a w := by
  refine wanted_step hw fun K hK => ?_
  have hrun : (Instr.sliceAt 70 (.pointer (some ⟨g, o, none⟩)) none none none).run Try.prog w = .ok (.slice (some ⟨g, o, none⟩) 16 16) w := by
    have h3 : Try.prog.arrayLen 70 = 16 := by kernel_rfl
    have h1 := run_sliceAt_array_all (P := Try.prog) w 70 ⟨g, o, none⟩ (by kernel_rfl)
    rw [h1]
    have h2 : (sizeOf (Try.prog.elem 70)).run Try.prog w = .ok 1 w := by kernel_rfl
    rw [h2, h3]
    simp only [Result.andThen_ok, slicedAt, Nat.mul_one, Addr.add_mid]
    rfl
  unfold Oper.wp execOp
  simp only [ho, hx, Option.map_none, hrun, Sem.run_bind, Sem.run_map, Sem.run_pure, Result.andThen_ok]
  exact hK _ _ h
end
theorem sts_reads {W : World} {g o : Nat} {l : List Int} (hl : l.length = 16) (hr : W.rangeAt g o (nums .u8 l)) : ReadsInt W .u8 (some ⟨g, o, none⟩) 16 l := by
  refine ⟨hl, by omega, fun _ => ⟨_, rfl, fun j hj => ?_⟩⟩
  rw [Addr.add_mid]
  refine hr j _ ?_
  have e9 : (j : Int).toNat = j := by omega
  simp [nums, List.getElem?_eq_getElem (show j < l.length by omega), rd, List.getD_eq_getElem?_getD, e9]
theorem Sup.sts {W : World} {g : Nat} {y : Su} (h : Sup W g y) : W.rangeAt g 5 (nums .u8 y.x.st) := fun j v hv => by
  have hj : j < 16 := by
    have := (List.getElem?_eq_some_iff.1 hv).1
    rw [nums_length, h.1] at this; exact this
  rw [show 5 + j = 2 + (3 + j) by omega, h.ci j hj]
  simp only [nums, List.getElem?_map, List.getElem?_eq_getElem (show j < y.x.st.length by rw [h.1]; exact hj), Option.map_some, Option.some.injEq] at hv
  rw [← hv]
  simp [rd, List.getD_eq_getElem?_getD, List.getElem?_eq_getElem (show j < y.x.st.length by rw [h.1]; exact hj)]
set_option maxRecDepth 100000 in
set_option maxHeartbeats 2000000 in
/-- the closure: a number's bytes behind those that its variable holds -/
theorem lay_any (n size : Nat) (X L : List Int) (PX : Hid (PutN size n X 0)) (hsz : Hid ((L.length + X.length) * 1 ≤ 140737488355328)) (B : Nat) (v : Value) (w : World) (KB : Hid (Row TS w B #[v])) (HO : Hid (w.ownsRow (B + 1) 5 1 v L.length (nums .u8 L))) :
    Calls Try.prog 152 #[.int .u64 (n : Int), .int .i64 (size : Int), .pointer (some ⟨B, 0, none⟩)] w fun e w' => (e = .returned (.tuple #[]) ∧ ∃ v', Row TS w' B #[v'] ∧ w'.ownsRow (B + 1) 5 1 v' (L ++ X).length (nums .u8 (L ++ X))) ∧ Below B w w' := by
  have hB := KB.out.lt
  have HB := Lib.hid (Below.refl (B + 1) w)
  go_enter Try.func152, Try.ntmps152
  go_wp2_with (first
    | (go_skip)
    | (go_at_call 42; refine (PX.out _).mono ?_; rintro e w1 ⟨⟨A1, c1, rfl, o1⟩, hb⟩; have O1 := Lib.hid o1; replace KB := Lib.hid (KB.out.below hb); replace HO := Lib.hid (pw_own_below HO.out hb); replace HB := Lib.hid (HB.out.trans (hb.mono hB)); have hz1 := hb.size; clear hb o1)
    | (refine F.rowCell _ (.tmp 2) rfl (KB.out.cell (o := 0) rfl) rfl agg_sl rfl ?_)
    | (at_builtin; refine print_append_row (w0 := w) (B + 1) rfl (.tmp 13) (.tmp 14) 22 5 .u8 1 rfl Try.underlying22 E.info_u8 (by decide) _ L X A1 X.length c1 rfl rfl HO.out O1.out.reads HB.out (by omega) hsz.out ?_; intro v6 w6 ho hb hg hat; obtain ⟨A6, c6, rfl, h6⟩ := byts_of ho rfl; have O6 := Lib.hid h6; have hz6 := hg.size; replace KB := Lib.hid (Row.grown_any KB.out hg (own_ne HO.out KB.out (by decide))); replace HB := Lib.hid hb; clear ho hb hg hat h6 HO O1)
    | (refine F.rowSet _ (.tmp 2) (.tmp 15) rfl KB.out 0 Nat.zero_lt_one rfl _ rfl rfl rfl info_sl rfl ?_; intro w7 hk hg; have hz7 := hg.size; have HC := Lib.hid (below_at (HB.out.mono (Nat.le_succ B)) hg (Nat.le_refl _) KB.out.lt); replace O6 := Lib.hid (own_other O6.out hg (.inr (Ne.symm (own_ne O6.out KB.out (by decide))))); have K7 := Lib.hid hk; clear hk hg))
  go_end0
  refine ⟨⟨rfl, .slice A6 (L ++ X).length c6, K7.out, ?_⟩, HC.out⟩
  have h9 := O6.out
  rw [List.length_append] at h9 ⊢
  exact h9
set_option maxRecDepth 100000 in
set_option maxHeartbeats 2000000 in
/-- the reference's: a number's bytes behind those of a row of one's own -/
theorem laid_any (n size : Nat) (X L : List Int) (PX : Hid (rPutN size n X 0)) (hsz : Hid ((L.length + X.length) * 1 ≤ 140737488355328)) (b : Nat) (A : Option Addr) (c : Nat) (w : World) (hb0 : b ≤ w.heap.size) (HO : Hid (Byts b w A c L)) :
    Calls Try.prog 151 #[.slice A L.length c, .int .u64 (n : Int), .int .i64 (size : Int)] w fun e w' => (∃ A k, e = .returned (.slice A (L ++ X).length k) ∧ Byts b w' A k (L ++ X)) ∧ Below b w w' := by
  have HB := Lib.hid (Below.refl b w)
  go_enter Try.func151, Try.ntmps151
  go_wp2_with (first
    | (go_skip)
    | (go_at_call 43; refine (PX.out _).mono ?_; rintro e w1 ⟨⟨A1, c1, rfl, o1⟩, hb⟩; have O1 := Lib.hid o1; replace HO := Lib.hid (HO.out.below hb); replace HB := Lib.hid (HB.out.trans (hb.mono hb0)); have hz1 := hb.size; clear hb o1)
    | (at_builtin; refine print_append_row (w0 := w) b rfl (.tmp 15) (.tmp 16) 22 5 .u8 1 rfl Try.underlying22 E.info_u8 (by decide) _ L X A1 X.length c1 rfl rfl HO.out O1.out.reads HB.out (by omega) hsz.out ?_; intro v6 w6 ho hb hg hat; obtain ⟨A6, c6, rfl, h6⟩ := byts_of ho rfl; have O6 := Lib.hid h6; replace HB := Lib.hid hb; clear ho hb hg hat h6 HO O1))
  go_ret
  exact ⟨⟨A6, c6, by rw [List.length_append]; rfl, O6.out⟩, HB.out⟩
end Go.Proofs.Ytdchcggllcgokaa.Q

namespace Go.Proofs.Ytdchcggllcgokaa.Q
open Go.RowKit Go.Proofs.Ytdchcggllcgokaa.L Go.Proofs.Ytdchcggllcgokaa.U Go.Proofs.Ytdchcggllcgokaa.E Go.Proofs.Ytdchcggllcgokaa.R Go.Proofs.YtdchcggllcgokaaW.PrintWords
set_option linter.unusedVariables false
set_option linter.unusedSimpArgs false
theorem Sup.id_ {W : World} {g i : Nat} {se m s r : Int} {st : List Int} {cu : Int} {go : Bool} (h : Sup W g ⟨i, se, ⟨m, s, r, st, cu, go⟩⟩) : W.cell? ⟨g, 0, none⟩ = some (.int .u64 (i : Int)) := h.cid
theorem Sup.self_ {W : World} {g i : Nat} {se m s r : Int} {st : List Int} {cu : Int} {go : Bool} (h : Sup W g ⟨i, se, ⟨m, s, r, st, cu, go⟩⟩) : W.cell? ⟨g, 1, none⟩ = some (.int .i64 se) := h.cself
theorem Sup.m_ {W : World} {g i : Nat} {se m s r : Int} {st : List Int} {cu : Int} {go : Bool} (h : Sup W g ⟨i, se, ⟨m, s, r, st, cu, go⟩⟩) : W.cell? ⟨g, 2, none⟩ = some (.int .i64 m) := h.cm
theorem Sup.s_ {W : World} {g i : Nat} {se m s r : Int} {st : List Int} {cu : Int} {go : Bool} (h : Sup W g ⟨i, se, ⟨m, s, r, st, cu, go⟩⟩) : W.cell? ⟨g, 3, none⟩ = some (.int .i64 s) := h.cs
theorem Sup.r_ {W : World} {g i : Nat} {se m s r : Int} {st : List Int} {cu : Int} {go : Bool} (h : Sup W g ⟨i, se, ⟨m, s, r, st, cu, go⟩⟩) : W.cell? ⟨g, 4, none⟩ = some (.int .i64 r) := h.cr
theorem Sup.cu_ {W : World} {g i : Nat} {se m s r : Int} {st : List Int} {cu : Int} {go : Bool} (h : Sup W g ⟨i, se, ⟨m, s, r, st, cu, go⟩⟩) : W.cell? ⟨g, 21, none⟩ = some (.int .i64 cu) := h.ccu
theorem Sup.go_ {W : World} {g i : Nat} {se m s r : Int} {st : List Int} {cu : Int} {go : Bool} (h : Sup W g ⟨i, se, ⟨m, s, r, st, cu, go⟩⟩) : W.cell? ⟨g, 22, none⟩ = some (.bool go) := h.cgo
theorem Ros.r_ {W : World} {g : Nat} {m s r : Int} {st : List Int} {cu : Int} {go : Bool} (h : Ros W g ⟨m, s, r, st, cu, go⟩) : W.cell? ⟨g, 2, none⟩ = some (.int .i64 r) := h.cr
set_option maxRecDepth 100000 in
set_option maxHeartbeats 4000000 in
theorem sbody_t (i se m s r cu : Nat) (st : List Int) (HL : Hid (st.length = 16)) (hi : i < 18446744073709551616) (hse : se ≤ 16) (hm : m ≤ 16) (hs : s ≤ 64) (hr : r ≤ 256) (hcu : cu ≤ 64) (X0 X1 X2 X3 X4 X5 X6 X7 L1 L2 L3 L4 L5 L6 L7 L8 : List Int)
    (P0 : Hid (PutN 8 i X0 0)) (P1 : Hid (PutN 1 m X1 0)) (P2 : Hid (PutN 2 s X2 0)) (P3 : Hid (PutN 2 r X3 0)) (P4 : Hid (PutN 1 se X4 0)) (P6 : Hid (PutN 2 cu X6 0)) (P7 : Hid (PutN 1 1 X7 0))
    (PB : Hid (∀ (A : Option Addr) (c : Nat) (w : World), ReadsInt w .u8 A 16 st → Calls Try.prog 34 #[.slice A 16 c, .int .i64 2] w fun e w' => (∃ A k, e = .returned (.tuple #[.slice A X5.length k, .int .i64 0]) ∧ Byts w.heap.size w' A k X5) ∧ Below w.heap.size w w'))
    (j0 : Hid (([] : List Int) ++ X0 = L1)) (j1 : Hid (L1 ++ X1 = L2)) (j2 : Hid (L2 ++ X2 = L3)) (j3 : Hid (L3 ++ X3 = L4)) (j4 : Hid (L4 ++ X4 = L5)) (j5 : Hid (L5 ++ X5 = L6)) (j6 : Hid (L6 ++ X6 = L7)) (j7 : Hid (L7 ++ X7 = L8))
    (z0 : Hid ((([] : List Int).length + X0.length) * 1 ≤ 140737488355328)) (z1 : Hid ((L1.length + X1.length) * 1 ≤ 140737488355328)) (z2 : Hid ((L2.length + X2.length) * 1 ≤ 140737488355328)) (z3 : Hid ((L3.length + X3.length) * 1 ≤ 140737488355328)) (z4 : Hid ((L4.length + X4.length) * 1 ≤ 140737488355328)) (z5 : Hid ((L5.length + X5.length) * 1 ≤ 140737488355328)) (z6 : Hid ((L6.length + X6.length) * 1 ≤ 140737488355328)) (z7 : Hid ((L7.length + X7.length) * 1 ≤ 140737488355328)) (w : World) :
    Calls Try.prog 143 #[sup ⟨i, (se : Int), ⟨(m : Int), (s : Int), (r : Int), st, (cu : Int), true⟩⟩] w fun e w' => (∃ A k, e = .returned (.slice A L8.length k) ∧ Byts w.heap.size w' A k L8) ∧ Below w.heap.size w w' := by
  have HB := Lib.hid (Below.refl w.heap.size w)
  go_enter Try.func143, Try.ntmps143
  go_wp2_with (first
    | (go_skip)
    | (refine supBox (.tmp 0) rfl rfl HL.out rfl ?_; intro w1 hk hb hz1; have K1 := Lib.hid hk; replace HB := Lib.hid (below_ext HB.out hb); clear hk hb)
    | (refine supRos (.tmp 9) rfl K1.out rfl rfl ?_)
    | (refine rosAlloc rfl rfl ?_; intro w2 hk hb hz2; replace K1 := Lib.hid (K1.out.below hb); have K3 := Lib.hid hk; replace HB := Lib.hid (below_ext HB.out hb); clear hk hb)
    | (refine rosStore (.tmp 3) (.tmp 10) rfl K3.out rfl rfl HL.out rfl ?_; intro w3 hk hg; replace K1 := Lib.hid (K1.out.grown hg (by omega)); replace HB := Lib.hid (below_at HB.out hg (by omega) K3.out.lt); replace K3 := Lib.hid hk; have hz3 := hg.size; clear hk hg)
    | (refine stsAll (.tmp 12) rfl rfl rfl ?_)
    | (go_at_call 34; refine (PB.out _ _ _ (sts_reads HL.out K3.out.sts)).mono ?_; rintro e w4 ⟨⟨A4, c4, rfl, o4⟩, hb⟩; have O4 := Lib.hid o4; replace K1 := Lib.hid (K1.out.below hb); replace K3 := Lib.hid (K3.out.below hb); replace HB := Lib.hid (below_ext HB.out hb); have hz4 := hb.size; clear hb o4)
    | (refine F.rowCell _ (.tmp 17) rfl K3.out.go_ rfl agg_bool rfl ?_)
    | (refine slAlloc rfl rfl ?_; intro w5 hk hb hz5; have KB := Lib.hid hk; have HC := Lib.hid hb; have HO := Lib.hid (own_nil w5 (w4.heap.size + 1) 5 1); have tp0 : True := trivial; clear hk hb)
    | (refine F.rowCell _ (.tmp 21) rfl (K1.out.below HC.out).id_ rfl agg_u64 rfl ?_)
    | (refine F.rowCell _ (.tmp 26) rfl (K3.out.below HC.out).m_ rfl agg_int rfl ?_)
    | (refine F.rowCell _ (.tmp 32) rfl (K3.out.below HC.out).s_ rfl agg_int rfl ?_)
    | (refine F.rowCell _ (.tmp 38) rfl (K3.out.below HC.out).r_ rfl agg_int rfl ?_)
    | (refine F.rowCell _ (.tmp 43) rfl (K1.out.below HC.out).self_ rfl agg_int rfl ?_)
    | (refine F.rowCell _ (.tmp 51) rfl (K3.out.below HC.out).cu_ rfl agg_int rfl ?_)
    | (have _t := tp0; go_at_call 152; refine (lay_any i 8 X0 [] P0 z0 _ _ _ KB HO).mono ?_; rintro e w6 ⟨⟨rfl, v6, hk, ho⟩, hb⟩; rw [j0.out] at ho; replace KB := Lib.hid hk; replace HO := Lib.hid ho; replace HC := Lib.hid (HC.out.trans hb); have tp1 : True := trivial; clear hk ho hb _t tp0)
    | (have _t := tp1; go_at_call 152; refine (lay_any m 1 X1 L1 P1 z1 _ _ _ KB HO).mono ?_; rintro e w7 ⟨⟨rfl, v7, hk, ho⟩, hb⟩; rw [j1.out] at ho; replace KB := Lib.hid hk; replace HO := Lib.hid ho; replace HC := Lib.hid (HC.out.trans hb); have tp2 : True := trivial; clear hk ho hb _t tp1)
    | (have _t := tp2; go_at_call 152; refine (lay_any s 2 X2 L2 P2 z2 _ _ _ KB HO).mono ?_; rintro e w8 ⟨⟨rfl, v8, hk, ho⟩, hb⟩; rw [j2.out] at ho; replace KB := Lib.hid hk; replace HO := Lib.hid ho; replace HC := Lib.hid (HC.out.trans hb); have tp3 : True := trivial; clear hk ho hb _t tp2)
    | (have _t := tp3; go_at_call 152; refine (lay_any r 2 X3 L3 P3 z3 _ _ _ KB HO).mono ?_; rintro e w9 ⟨⟨rfl, v9, hk, ho⟩, hb⟩; rw [j3.out] at ho; replace KB := Lib.hid hk; replace HO := Lib.hid ho; replace HC := Lib.hid (HC.out.trans hb); have tp4 : True := trivial; clear hk ho hb _t tp3)
    | (have _t := tp4; go_at_call 152; refine (lay_any se 1 X4 L4 P4 z4 _ _ _ KB HO).mono ?_; rintro e w10 ⟨⟨rfl, v10, hk, ho⟩, hb⟩; rw [j4.out] at ho; replace KB := Lib.hid hk; replace HO := Lib.hid ho; replace HC := Lib.hid (HC.out.trans hb); have tp5 : True := trivial; clear hk ho hb _t tp4)
    | (refine F.rowCell _ (.tmp 7) rfl (KB.out.cell (o := 0) rfl) rfl agg_sl rfl ?_)
    | (at_builtin; have _t := tp5; have lKB := KB.out.lt; refine print_append_row (w0 := w10) (w4.heap.size + 1) rfl (.tmp 47) (.tmp 48) 22 5 .u8 1 rfl Try.underlying22 E.info_u8 (by decide) _ L5 X5 A4 X5.length c4 rfl rfl HO.out (O4.out.reads.below HC.out) (Below.refl _ _) (by omega) z5.out ?_; intro v11 w11 ho hb hg hat; rw [j5.out] at ho; obtain ⟨A11, c11, rfl, h11⟩ := byts_of ho rfl; have O6 := Lib.hid h11; have hz11 := hg.size; have KC := Lib.hid (Row.grown_any KB.out hg (own_ne HO.out KB.out (by decide))); have HD := Lib.hid hb; clear ho hb hg hat h11 HO KB lKB)
    | (refine F.rowSet _ (.tmp 7) (.tmp 49) rfl KC.out 0 Nat.zero_lt_one rfl _ rfl rfl rfl info_sl rfl ?_; intro w12 hk hg; have hz12 := hg.size; replace HC := Lib.hid (HC.out.trans (below_at (HD.out.mono (Nat.le_succ _)) hg (Nat.le_refl _) KC.out.lt)); have HO := Lib.hid (own_other O6.out hg (.inr (Ne.symm (own_ne O6.out KC.out (by decide))))); have KB := Lib.hid (show Row TS w12 w4.heap.size #[.slice A11 L6.length c11] from hk); have tp6 : True := trivial; clear hk hg O6 KC HD _t tp5)
    | (have _t := tp6; go_at_call 152; refine (lay_any cu 2 X6 L6 P6 z6 _ _ _ KB HO).mono ?_; rintro e w12 ⟨⟨rfl, v12, hk, ho⟩, hb⟩; rw [j6.out] at ho; replace KB := Lib.hid hk; replace HO := Lib.hid ho; replace HC := Lib.hid (HC.out.trans hb); have tp7 : True := trivial; clear hk ho hb _t tp6)
    | (have _t := tp7; go_at_call 152; refine (lay_any 1 1 X7 L7 P7 z7 _ _ _ KB HO).mono ?_; rintro e w13 ⟨⟨rfl, v13, hk, ho⟩, hb⟩; rw [j7.out] at ho; replace KB := Lib.hid hk; replace HO := Lib.hid ho; replace HC := Lib.hid (HC.out.trans hb); have tp8 : True := trivial; clear hk ho hb _t tp7))
  go_ret
  obtain ⟨A13, c13, rfl, h13⟩ := byts_of HO.out rfl
  have hbb := HB.out.size
  exact ⟨⟨A13, c13, rfl, own_lower h13 (by omega)⟩, below_ext HB.out HC.out⟩
set_option maxRecDepth 100000 in
set_option maxHeartbeats 4000000 in
theorem sbody_f (i se m s r cu : Nat) (st : List Int) (HL : Hid (st.length = 16)) (hi : i < 18446744073709551616) (hse : se ≤ 16) (hm : m ≤ 16) (hs : s ≤ 64) (hr : r ≤ 256) (hcu : cu ≤ 64) (X0 X1 X2 X3 X4 X5 X6 X7 L1 L2 L3 L4 L5 L6 L7 L8 : List Int)
    (P0 : Hid (PutN 8 i X0 0)) (P1 : Hid (PutN 1 m X1 0)) (P2 : Hid (PutN 2 s X2 0)) (P3 : Hid (PutN 2 r X3 0)) (P4 : Hid (PutN 1 se X4 0)) (P6 : Hid (PutN 2 cu X6 0)) (P7 : Hid (PutN 1 0 X7 0))
    (PB : Hid (∀ (A : Option Addr) (c : Nat) (w : World), ReadsInt w .u8 A 16 st → Calls Try.prog 34 #[.slice A 16 c, .int .i64 2] w fun e w' => (∃ A k, e = .returned (.tuple #[.slice A X5.length k, .int .i64 0]) ∧ Byts w.heap.size w' A k X5) ∧ Below w.heap.size w w'))
    (j0 : Hid (([] : List Int) ++ X0 = L1)) (j1 : Hid (L1 ++ X1 = L2)) (j2 : Hid (L2 ++ X2 = L3)) (j3 : Hid (L3 ++ X3 = L4)) (j4 : Hid (L4 ++ X4 = L5)) (j5 : Hid (L5 ++ X5 = L6)) (j6 : Hid (L6 ++ X6 = L7)) (j7 : Hid (L7 ++ X7 = L8))
    (z0 : Hid ((([] : List Int).length + X0.length) * 1 ≤ 140737488355328)) (z1 : Hid ((L1.length + X1.length) * 1 ≤ 140737488355328)) (z2 : Hid ((L2.length + X2.length) * 1 ≤ 140737488355328)) (z3 : Hid ((L3.length + X3.length) * 1 ≤ 140737488355328)) (z4 : Hid ((L4.length + X4.length) * 1 ≤ 140737488355328)) (z5 : Hid ((L5.length + X5.length) * 1 ≤ 140737488355328)) (z6 : Hid ((L6.length + X6.length) * 1 ≤ 140737488355328)) (z7 : Hid ((L7.length + X7.length) * 1 ≤ 140737488355328)) (w : World) :
    Calls Try.prog 143 #[sup ⟨i, (se : Int), ⟨(m : Int), (s : Int), (r : Int), st, (cu : Int), false⟩⟩] w fun e w' => (∃ A k, e = .returned (.slice A L8.length k) ∧ Byts w.heap.size w' A k L8) ∧ Below w.heap.size w w' := by
  have HB := Lib.hid (Below.refl w.heap.size w)
  go_enter Try.func143, Try.ntmps143
  go_wp2_with (first
    | (go_skip)
    | (refine supBox (.tmp 0) rfl rfl HL.out rfl ?_; intro w1 hk hb hz1; have K1 := Lib.hid hk; replace HB := Lib.hid (below_ext HB.out hb); clear hk hb)
    | (refine supRos (.tmp 9) rfl K1.out rfl rfl ?_)
    | (refine rosAlloc rfl rfl ?_; intro w2 hk hb hz2; replace K1 := Lib.hid (K1.out.below hb); have K3 := Lib.hid hk; replace HB := Lib.hid (below_ext HB.out hb); clear hk hb)
    | (refine rosStore (.tmp 3) (.tmp 10) rfl K3.out rfl rfl HL.out rfl ?_; intro w3 hk hg; replace K1 := Lib.hid (K1.out.grown hg (by omega)); replace HB := Lib.hid (below_at HB.out hg (by omega) K3.out.lt); replace K3 := Lib.hid hk; have hz3 := hg.size; clear hk hg)
    | (refine stsAll (.tmp 12) rfl rfl rfl ?_)
    | (go_at_call 34; refine (PB.out _ _ _ (sts_reads HL.out K3.out.sts)).mono ?_; rintro e w4 ⟨⟨A4, c4, rfl, o4⟩, hb⟩; have O4 := Lib.hid o4; replace K1 := Lib.hid (K1.out.below hb); replace K3 := Lib.hid (K3.out.below hb); replace HB := Lib.hid (below_ext HB.out hb); have hz4 := hb.size; clear hb o4)
    | (refine F.rowCell _ (.tmp 17) rfl K3.out.go_ rfl agg_bool rfl ?_)
    | (refine slAlloc rfl rfl ?_; intro w5 hk hb hz5; have KB := Lib.hid hk; have HC := Lib.hid hb; have HO := Lib.hid (own_nil w5 (w4.heap.size + 1) 5 1); have tp0 : True := trivial; clear hk hb)
    | (refine F.rowCell _ (.tmp 21) rfl (K1.out.below HC.out).id_ rfl agg_u64 rfl ?_)
    | (refine F.rowCell _ (.tmp 26) rfl (K3.out.below HC.out).m_ rfl agg_int rfl ?_)
    | (refine F.rowCell _ (.tmp 32) rfl (K3.out.below HC.out).s_ rfl agg_int rfl ?_)
    | (refine F.rowCell _ (.tmp 38) rfl (K3.out.below HC.out).r_ rfl agg_int rfl ?_)
    | (refine F.rowCell _ (.tmp 43) rfl (K1.out.below HC.out).self_ rfl agg_int rfl ?_)
    | (refine F.rowCell _ (.tmp 51) rfl (K3.out.below HC.out).cu_ rfl agg_int rfl ?_)
    | (have _t := tp0; go_at_call 152; refine (lay_any i 8 X0 [] P0 z0 _ _ _ KB HO).mono ?_; rintro e w6 ⟨⟨rfl, v6, hk, ho⟩, hb⟩; rw [j0.out] at ho; replace KB := Lib.hid hk; replace HO := Lib.hid ho; replace HC := Lib.hid (HC.out.trans hb); have tp1 : True := trivial; clear hk ho hb _t tp0)
    | (have _t := tp1; go_at_call 152; refine (lay_any m 1 X1 L1 P1 z1 _ _ _ KB HO).mono ?_; rintro e w7 ⟨⟨rfl, v7, hk, ho⟩, hb⟩; rw [j1.out] at ho; replace KB := Lib.hid hk; replace HO := Lib.hid ho; replace HC := Lib.hid (HC.out.trans hb); have tp2 : True := trivial; clear hk ho hb _t tp1)
    | (have _t := tp2; go_at_call 152; refine (lay_any s 2 X2 L2 P2 z2 _ _ _ KB HO).mono ?_; rintro e w8 ⟨⟨rfl, v8, hk, ho⟩, hb⟩; rw [j2.out] at ho; replace KB := Lib.hid hk; replace HO := Lib.hid ho; replace HC := Lib.hid (HC.out.trans hb); have tp3 : True := trivial; clear hk ho hb _t tp2)
    | (have _t := tp3; go_at_call 152; refine (lay_any r 2 X3 L3 P3 z3 _ _ _ KB HO).mono ?_; rintro e w9 ⟨⟨rfl, v9, hk, ho⟩, hb⟩; rw [j3.out] at ho; replace KB := Lib.hid hk; replace HO := Lib.hid ho; replace HC := Lib.hid (HC.out.trans hb); have tp4 : True := trivial; clear hk ho hb _t tp3)
    | (have _t := tp4; go_at_call 152; refine (lay_any se 1 X4 L4 P4 z4 _ _ _ KB HO).mono ?_; rintro e w10 ⟨⟨rfl, v10, hk, ho⟩, hb⟩; rw [j4.out] at ho; replace KB := Lib.hid hk; replace HO := Lib.hid ho; replace HC := Lib.hid (HC.out.trans hb); have tp5 : True := trivial; clear hk ho hb _t tp4)
    | (refine F.rowCell _ (.tmp 7) rfl (KB.out.cell (o := 0) rfl) rfl agg_sl rfl ?_)
    | (at_builtin; have _t := tp5; have lKB := KB.out.lt; refine print_append_row (w0 := w10) (w4.heap.size + 1) rfl (.tmp 47) (.tmp 48) 22 5 .u8 1 rfl Try.underlying22 E.info_u8 (by decide) _ L5 X5 A4 X5.length c4 rfl rfl HO.out (O4.out.reads.below HC.out) (Below.refl _ _) (by omega) z5.out ?_; intro v11 w11 ho hb hg hat; rw [j5.out] at ho; obtain ⟨A11, c11, rfl, h11⟩ := byts_of ho rfl; have O6 := Lib.hid h11; have hz11 := hg.size; have KC := Lib.hid (Row.grown_any KB.out hg (own_ne HO.out KB.out (by decide))); have HD := Lib.hid hb; clear ho hb hg hat h11 HO KB lKB)
    | (refine F.rowSet _ (.tmp 7) (.tmp 49) rfl KC.out 0 Nat.zero_lt_one rfl _ rfl rfl rfl info_sl rfl ?_; intro w12 hk hg; have hz12 := hg.size; replace HC := Lib.hid (HC.out.trans (below_at (HD.out.mono (Nat.le_succ _)) hg (Nat.le_refl _) KC.out.lt)); have HO := Lib.hid (own_other O6.out hg (.inr (Ne.symm (own_ne O6.out KC.out (by decide))))); have KB := Lib.hid (show Row TS w12 w4.heap.size #[.slice A11 L6.length c11] from hk); have tp6 : True := trivial; clear hk hg O6 KC HD _t tp5)
    | (have _t := tp6; go_at_call 152; refine (lay_any cu 2 X6 L6 P6 z6 _ _ _ KB HO).mono ?_; rintro e w12 ⟨⟨rfl, v12, hk, ho⟩, hb⟩; rw [j6.out] at ho; replace KB := Lib.hid hk; replace HO := Lib.hid ho; replace HC := Lib.hid (HC.out.trans hb); have tp7 : True := trivial; clear hk ho hb _t tp6)
    | (have _t := tp7; go_at_call 152; refine (lay_any 0 1 X7 L7 P7 z7 _ _ _ KB HO).mono ?_; rintro e w13 ⟨⟨rfl, v13, hk, ho⟩, hb⟩; rw [j7.out] at ho; replace KB := Lib.hid hk; replace HO := Lib.hid ho; replace HC := Lib.hid (HC.out.trans hb); have tp8 : True := trivial; clear hk ho hb _t tp7))
  go_ret
  obtain ⟨A13, c13, rfl, h13⟩ := byts_of HO.out rfl
  have hbb := HB.out.size
  exact ⟨⟨A13, c13, rfl, own_lower h13 (by omega)⟩, below_ext HB.out HC.out⟩
end Go.Proofs.Ytdchcggllcgokaa.Q

namespace Go.Proofs.Ytdchcggllcgokaa.Q
open Go.RowKit Go.Proofs.Ytdchcggllcgokaa.L Go.Proofs.Ytdchcggllcgokaa.U Go.Proofs.Ytdchcggllcgokaa.E Go.Proofs.Ytdchcggllcgokaa.R Go.Proofs.YtdchcggllcgokaaW.PrintWords
set_option linter.unusedVariables false
set_option linter.unusedSimpArgs false
theorem one_reads (W : World) (v : Int) : ReadsInt (W.alloc (.cells #[.int .u8 v] 5 (0, 0))) .u8 (some ⟨W.heap.size, 0, none⟩) 1 [v] :=
  ⟨rfl, by decide, fun _ => ⟨_, rfl, fun j hj => by
    obtain rfl : j = 0 := by omega
    rw [Addr.add_mid, Nat.zero_add]
    have h : (W.alloc (.cells #[.int .u8 v] 5 (0, 0))).heap[W.heap.size]? = some (.cells #[.int .u8 v] 5 (0, 0)) := heap_alloc_last W _
    have h2 : Row 5 (W.alloc (.cells #[.int .u8 v] 5 (0, 0))) W.heap.size #[.int .u8 v] := h
    exact h2.cell (o := 0) rfl⟩⟩
set_option maxRecDepth 100000 in
set_option maxHeartbeats 4000000 in
theorem rbody_t (i se m s r cu : Nat) (st : List Int) (HL : Hid (st.length = 16)) (hi : i < 18446744073709551616) (hse : se ≤ 16) (hm : m ≤ 16) (hs : s ≤ 64) (hr : r ≤ 256) (hcu : cu ≤ 64) (X0 X1 X2 X3 X4 X5 X6 L1 L2 L3 L4 L5 L6 L7 L8 : List Int)
    (P0 : Hid (rPutN 8 i X0 0)) (P1 : Hid (rPutN 1 m X1 0)) (P2 : Hid (rPutN 2 s X2 0)) (P3 : Hid (rPutN 2 r X3 0)) (P4 : Hid (rPutN 1 se X4 0)) (P6 : Hid (rPutN 2 cu X6 0))
    (PB : Hid (∀ (A : Option Addr) (c : Nat) (w : World), ReadsInt w .u8 A 16 st → Calls Try.prog 35 #[.slice A 16 c, .int .i64 2] w fun e w' => (∃ A k, e = .returned (.tuple #[.slice A X5.length k, .int .i64 0]) ∧ Byts w.heap.size w' A k X5) ∧ Below w.heap.size w w'))
    (j0 : Hid (([] : List Int) ++ X0 = L1)) (j1 : Hid (L1 ++ X1 = L2)) (j2 : Hid (L2 ++ X2 = L3)) (j3 : Hid (L3 ++ X3 = L4)) (j4 : Hid (L4 ++ X4 = L5)) (j5 : Hid (L5 ++ X5 = L6)) (j6 : Hid (L6 ++ X6 = L7)) (j7 : Hid (L7 ++ [1] = L8))
    (z0 : Hid ((([] : List Int).length + X0.length) * 1 ≤ 140737488355328)) (z1 : Hid ((L1.length + X1.length) * 1 ≤ 140737488355328)) (z2 : Hid ((L2.length + X2.length) * 1 ≤ 140737488355328)) (z3 : Hid ((L3.length + X3.length) * 1 ≤ 140737488355328)) (z4 : Hid ((L4.length + X4.length) * 1 ≤ 140737488355328)) (z5 : Hid ((L5.length + X5.length) * 1 ≤ 140737488355328)) (z6 : Hid ((L6.length + X6.length) * 1 ≤ 140737488355328)) (z7 : Hid ((L7.length + [(1 : Int)].length) * 1 ≤ 140737488355328)) (w : World) :
    Calls Try.prog 141 #[sup ⟨i, (se : Int), ⟨(m : Int), (s : Int), (r : Int), st, (cu : Int), true⟩⟩] w fun e w' => (∃ A k, e = .returned (.slice A L8.length k) ∧ Byts w.heap.size w' A k L8) ∧ Below w.heap.size w w' := by
  have HB := Lib.hid (Below.refl w.heap.size w)
  go_enter Try.func141, Try.ntmps141
  go_wp2_with (first
    | (go_skip)
    | (refine supBox (.tmp 0) rfl rfl HL.out rfl ?_; intro w1 hk hb hz1; have K1 := Lib.hid hk; replace HB := Lib.hid (below_ext HB.out hb); have HC := Lib.hid (Below.refl w1.heap.size w1); have HO := Lib.hid (Byts.none_ w1.heap.size w1); have tp0 : True := trivial; clear hk hb)
    | (refine F.rowCell _ (.tmp 6) rfl (K1.out.below HC.out).id_ rfl agg_u64 rfl ?_)
    | (refine F.rowCell _ (.tmp 12) rfl (K1.out.below HC.out).m_ rfl agg_int rfl ?_)
    | (refine F.rowCell _ (.tmp 19) rfl (K1.out.below HC.out).s_ rfl agg_int rfl ?_)
    | (refine F.rowCell _ (.tmp 26) rfl (K1.out.below HC.out).r_ rfl agg_int rfl ?_)
    | (refine F.rowCell _ (.tmp 31) rfl (K1.out.below HC.out).self_ rfl agg_int rfl ?_)
    | (refine F.rowCell _ (.tmp 47) rfl (K1.out.below HC.out).cu_ rfl agg_int rfl ?_)
    | (refine F.rowCell _ (.tmp 52) rfl (K1.out.below HC.out).go_ rfl agg_bool rfl ?_)
    | (refine stsAll (.tmp 37) rfl rfl rfl ?_)
    | (go_at_call 35; refine (PB.out _ _ _ (sts_reads HL.out (K1.out.below HC.out).sts)).mono ?_; rintro e w20 ⟨⟨A20, c20, rfl, o5⟩, hb⟩; have O5 := Lib.hid o5; replace HO := Lib.hid (HO.out.below hb); replace HC := Lib.hid (HC.out.trans (hb.mono HC.out.size)); clear hb o5)
    | (at_builtin; have _t := tp5; refine print_append_row (w0 := w1) w1.heap.size rfl (.tmp 42) (.tmp 43) 22 5 .u8 1 rfl Try.underlying22 E.info_u8 (by decide) _ L5 X5 A20 X5.length c20 rfl rfl HO.out O5.out.reads HC.out HC.out.size z5.out ?_; intro v21 w21 ho hb hg hat; rw [j5.out] at ho; obtain ⟨A21, c21, rfl, h21⟩ := byts_of ho rfl; replace HO := Lib.hid h21; replace HC := Lib.hid hb; have tp6 : True := trivial; clear ho hb hg hat h21 O5 _t tp5)
    | (have _t := tp0; go_at_call 151; refine (laid_any i 8 X0 [] P0 z0 w1.heap.size none 0 _ HC.out.size HO).mono ?_; rintro e w2 ⟨⟨A2, c2, he, ho⟩, hb⟩; rw [j0.out] at he ho; subst he; replace HO := Lib.hid ho; replace HC := Lib.hid (HC.out.trans hb); have tp1 : True := trivial; clear ho hb _t tp0)
    | (have _t := tp1; go_at_call 151; refine (laid_any m 1 X1 L1 P1 z1 w1.heap.size _ _ _ HC.out.size HO).mono ?_; rintro e w3 ⟨⟨A3, c3, he, ho⟩, hb⟩; rw [j1.out] at he ho; subst he; replace HO := Lib.hid ho; replace HC := Lib.hid (HC.out.trans hb); have tp2 : True := trivial; clear ho hb _t tp1)
    | (have _t := tp2; go_at_call 151; refine (laid_any s 2 X2 L2 P2 z2 w1.heap.size _ _ _ HC.out.size HO).mono ?_; rintro e w4 ⟨⟨A4, c4, he, ho⟩, hb⟩; rw [j2.out] at he ho; subst he; replace HO := Lib.hid ho; replace HC := Lib.hid (HC.out.trans hb); have tp3 : True := trivial; clear ho hb _t tp2)
    | (have _t := tp3; go_at_call 151; refine (laid_any r 2 X3 L3 P3 z3 w1.heap.size _ _ _ HC.out.size HO).mono ?_; rintro e w5 ⟨⟨A5, c5, he, ho⟩, hb⟩; rw [j3.out] at he ho; subst he; replace HO := Lib.hid ho; replace HC := Lib.hid (HC.out.trans hb); have tp4 : True := trivial; clear ho hb _t tp3)
    | (have _t := tp4; go_at_call 151; refine (laid_any se 1 X4 L4 P4 z4 w1.heap.size _ _ _ HC.out.size HO).mono ?_; rintro e w6 ⟨⟨A6, c6, he, ho⟩, hb⟩; rw [j4.out] at he ho; subst he; replace HO := Lib.hid ho; replace HC := Lib.hid (HC.out.trans hb); have tp5 : True := trivial; clear ho hb _t tp4)
    | (have _t := tp6; go_at_call 151; refine (laid_any cu 2 X6 L6 P6 z6 w1.heap.size _ _ _ HC.out.size HO).mono ?_; rintro e w8 ⟨⟨A8, c8, he, ho⟩, hb⟩; rw [j6.out] at he ho; subst he; replace HO := Lib.hid ho; replace HC := Lib.hid (HC.out.trans hb); have tp7 : True := trivial; clear ho hb _t tp6)
    | (at_builtin; have _t := tp7; refine print_append_row (w0 := w1) w1.heap.size rfl (.tmp 54) (.tmp 55) 22 5 .u8 1 rfl Try.underlying22 E.info_u8 (by decide) _ L7 [1] (some ⟨w8.heap.size, 0, none⟩) 1 1 rfl rfl (own_alloc HO.out _) (one_reads w8 1) (HC.out.alloc HC.out.size _) (by have := HC.out.size; simp; omega) z7.out ?_; intro v22 w22 ho hb hg hat; rw [j7.out] at ho; obtain ⟨A22, c22, rfl, h22⟩ := byts_of ho rfl; replace HO := Lib.hid h22; replace HC := Lib.hid hb; clear ho hb hg hat h22 _t tp7))
  go_ret
  have hbb := HB.out.size
  exact ⟨⟨A22, c22, rfl, own_lower HO.out (by omega)⟩, below_ext HB.out HC.out⟩
set_option maxRecDepth 100000 in
set_option maxHeartbeats 4000000 in
theorem rbody_f (i se m s r cu : Nat) (st : List Int) (HL : Hid (st.length = 16)) (hi : i < 18446744073709551616) (hse : se ≤ 16) (hm : m ≤ 16) (hs : s ≤ 64) (hr : r ≤ 256) (hcu : cu ≤ 64) (X0 X1 X2 X3 X4 X5 X6 L1 L2 L3 L4 L5 L6 L7 L8 : List Int)
    (P0 : Hid (rPutN 8 i X0 0)) (P1 : Hid (rPutN 1 m X1 0)) (P2 : Hid (rPutN 2 s X2 0)) (P3 : Hid (rPutN 2 r X3 0)) (P4 : Hid (rPutN 1 se X4 0)) (P6 : Hid (rPutN 2 cu X6 0))
    (PB : Hid (∀ (A : Option Addr) (c : Nat) (w : World), ReadsInt w .u8 A 16 st → Calls Try.prog 35 #[.slice A 16 c, .int .i64 2] w fun e w' => (∃ A k, e = .returned (.tuple #[.slice A X5.length k, .int .i64 0]) ∧ Byts w.heap.size w' A k X5) ∧ Below w.heap.size w w'))
    (j0 : Hid (([] : List Int) ++ X0 = L1)) (j1 : Hid (L1 ++ X1 = L2)) (j2 : Hid (L2 ++ X2 = L3)) (j3 : Hid (L3 ++ X3 = L4)) (j4 : Hid (L4 ++ X4 = L5)) (j5 : Hid (L5 ++ X5 = L6)) (j6 : Hid (L6 ++ X6 = L7)) (j7 : Hid (L7 ++ [0] = L8))
    (z0 : Hid ((([] : List Int).length + X0.length) * 1 ≤ 140737488355328)) (z1 : Hid ((L1.length + X1.length) * 1 ≤ 140737488355328)) (z2 : Hid ((L2.length + X2.length) * 1 ≤ 140737488355328)) (z3 : Hid ((L3.length + X3.length) * 1 ≤ 140737488355328)) (z4 : Hid ((L4.length + X4.length) * 1 ≤ 140737488355328)) (z5 : Hid ((L5.length + X5.length) * 1 ≤ 140737488355328)) (z6 : Hid ((L6.length + X6.length) * 1 ≤ 140737488355328)) (z7 : Hid ((L7.length + [(0 : Int)].length) * 1 ≤ 140737488355328)) (w : World) :
    Calls Try.prog 141 #[sup ⟨i, (se : Int), ⟨(m : Int), (s : Int), (r : Int), st, (cu : Int), false⟩⟩] w fun e w' => (∃ A k, e = .returned (.slice A L8.length k) ∧ Byts w.heap.size w' A k L8) ∧ Below w.heap.size w w' := by
  have HB := Lib.hid (Below.refl w.heap.size w)
  go_enter Try.func141, Try.ntmps141
  go_wp2_with (first
    | (go_skip)
    | (refine supBox (.tmp 0) rfl rfl HL.out rfl ?_; intro w1 hk hb hz1; have K1 := Lib.hid hk; replace HB := Lib.hid (below_ext HB.out hb); have HC := Lib.hid (Below.refl w1.heap.size w1); have HO := Lib.hid (Byts.none_ w1.heap.size w1); have tp0 : True := trivial; clear hk hb)
    | (refine F.rowCell _ (.tmp 6) rfl (K1.out.below HC.out).id_ rfl agg_u64 rfl ?_)
    | (refine F.rowCell _ (.tmp 12) rfl (K1.out.below HC.out).m_ rfl agg_int rfl ?_)
    | (refine F.rowCell _ (.tmp 19) rfl (K1.out.below HC.out).s_ rfl agg_int rfl ?_)
    | (refine F.rowCell _ (.tmp 26) rfl (K1.out.below HC.out).r_ rfl agg_int rfl ?_)
    | (refine F.rowCell _ (.tmp 31) rfl (K1.out.below HC.out).self_ rfl agg_int rfl ?_)
    | (refine F.rowCell _ (.tmp 47) rfl (K1.out.below HC.out).cu_ rfl agg_int rfl ?_)
    | (refine F.rowCell _ (.tmp 52) rfl (K1.out.below HC.out).go_ rfl agg_bool rfl ?_)
    | (refine stsAll (.tmp 37) rfl rfl rfl ?_)
    | (go_at_call 35; refine (PB.out _ _ _ (sts_reads HL.out (K1.out.below HC.out).sts)).mono ?_; rintro e w20 ⟨⟨A20, c20, rfl, o5⟩, hb⟩; have O5 := Lib.hid o5; replace HO := Lib.hid (HO.out.below hb); replace HC := Lib.hid (HC.out.trans (hb.mono HC.out.size)); clear hb o5)
    | (at_builtin; have _t := tp5; refine print_append_row (w0 := w1) w1.heap.size rfl (.tmp 42) (.tmp 43) 22 5 .u8 1 rfl Try.underlying22 E.info_u8 (by decide) _ L5 X5 A20 X5.length c20 rfl rfl HO.out O5.out.reads HC.out HC.out.size z5.out ?_; intro v21 w21 ho hb hg hat; rw [j5.out] at ho; obtain ⟨A21, c21, rfl, h21⟩ := byts_of ho rfl; replace HO := Lib.hid h21; replace HC := Lib.hid hb; have tp6 : True := trivial; clear ho hb hg hat h21 O5 _t tp5)
    | (have _t := tp0; go_at_call 151; refine (laid_any i 8 X0 [] P0 z0 w1.heap.size none 0 _ HC.out.size HO).mono ?_; rintro e w2 ⟨⟨A2, c2, he, ho⟩, hb⟩; rw [j0.out] at he ho; subst he; replace HO := Lib.hid ho; replace HC := Lib.hid (HC.out.trans hb); have tp1 : True := trivial; clear ho hb _t tp0)
    | (have _t := tp1; go_at_call 151; refine (laid_any m 1 X1 L1 P1 z1 w1.heap.size _ _ _ HC.out.size HO).mono ?_; rintro e w3 ⟨⟨A3, c3, he, ho⟩, hb⟩; rw [j1.out] at he ho; subst he; replace HO := Lib.hid ho; replace HC := Lib.hid (HC.out.trans hb); have tp2 : True := trivial; clear ho hb _t tp1)
    | (have _t := tp2; go_at_call 151; refine (laid_any s 2 X2 L2 P2 z2 w1.heap.size _ _ _ HC.out.size HO).mono ?_; rintro e w4 ⟨⟨A4, c4, he, ho⟩, hb⟩; rw [j2.out] at he ho; subst he; replace HO := Lib.hid ho; replace HC := Lib.hid (HC.out.trans hb); have tp3 : True := trivial; clear ho hb _t tp2)
    | (have _t := tp3; go_at_call 151; refine (laid_any r 2 X3 L3 P3 z3 w1.heap.size _ _ _ HC.out.size HO).mono ?_; rintro e w5 ⟨⟨A5, c5, he, ho⟩, hb⟩; rw [j3.out] at he ho; subst he; replace HO := Lib.hid ho; replace HC := Lib.hid (HC.out.trans hb); have tp4 : True := trivial; clear ho hb _t tp3)
    | (have _t := tp4; go_at_call 151; refine (laid_any se 1 X4 L4 P4 z4 w1.heap.size _ _ _ HC.out.size HO).mono ?_; rintro e w6 ⟨⟨A6, c6, he, ho⟩, hb⟩; rw [j4.out] at he ho; subst he; replace HO := Lib.hid ho; replace HC := Lib.hid (HC.out.trans hb); have tp5 : True := trivial; clear ho hb _t tp4)
    | (have _t := tp6; go_at_call 151; refine (laid_any cu 2 X6 L6 P6 z6 w1.heap.size _ _ _ HC.out.size HO).mono ?_; rintro e w8 ⟨⟨A8, c8, he, ho⟩, hb⟩; rw [j6.out] at he ho; subst he; replace HO := Lib.hid ho; replace HC := Lib.hid (HC.out.trans hb); have tp7 : True := trivial; clear ho hb _t tp6)
    | (at_builtin; have _t := tp7; refine print_append_row (w0 := w1) w1.heap.size rfl (.tmp 57) (.tmp 58) 22 5 .u8 1 rfl Try.underlying22 E.info_u8 (by decide) _ L7 [0] (some ⟨w8.heap.size, 0, none⟩) 1 1 rfl rfl (own_alloc HO.out _) (one_reads w8 0) (HC.out.alloc HC.out.size _) (by have := HC.out.size; simp; omega) z7.out ?_; intro v22 w22 ho hb hg hat; rw [j7.out] at ho; obtain ⟨A22, c22, rfl, h22⟩ := byts_of ho rfl; replace HO := Lib.hid h22; replace HC := Lib.hid hb; clear ho hb hg hat h22 _t tp7))
  go_ret
  have hbb := HB.out.size
  exact ⟨⟨A22, c22, rfl, own_lower HO.out (by omega)⟩, below_ext HB.out HC.out⟩
end Go.Proofs.Ytdchcggllcgokaa.Q

namespace Go.Proofs.Ytdchcggllcgokaa.Q
open Go.RowKit Go.Proofs.Ytdchcggllcgokaa.L Go.Proofs.Ytdchcggllcgokaa.U Go.Proofs.Ytdchcggllcgokaa.E Go.Proofs.Ytdchcggllcgokaa.R Go.Proofs.YtdchcggllcgokaaW.PrintWords
set_option linter.unusedVariables false
set_option linter.unusedSimpArgs false
/-- sixteen states as bytes, two bits each -/
def pk (l : List Int) : List Int := V.bytes (V.part (val l) 2 16) 4
theorem pk_length (l : List Int) : (pk l).length = 4 := V.bytes_length _ _
def sbody (y : Su) : List Int := ((((((putb y.id 8 ++ putb y.x.m.toNat 1) ++ putb y.x.s.toNat 2) ++ putb y.x.r.toNat 2) ++ putb y.self.toNat 1) ++ pk y.x.st) ++ putb y.x.cu.toNat 2) ++ [if y.x.go = true then 1 else 0]
theorem sbody_length (y : Su) : (sbody y).length = 21 := by simp [sbody, putb_length, pk_length]
theorem wf_app {a b : List Int} (ha : Wf8 a) (hb : Wf8 b) : Wf8 (a ++ b) := fun x hx => by
  rcases List.mem_append.1 hx with h | h
  · exact ha x h
  · exact hb x h
theorem sbody_wf (y : Su) : Wf8 (sbody y) := by
  refine wf_app (wf_app (wf_app (wf_app (wf_app (wf_app (wf_app (putb_wf _ _) (putb_wf _ _)) (putb_wf _ _)) (putb_wf _ _)) (putb_wf _ _)) (bytes_wf _ _)) (putb_wf _ _)) fun x hx => ?_
  have h : x = if y.x.go = true then 1 else 0 := by simpa using hx
  rw [h]; split <;> rfl
theorem may_nats {y : Su} (h : mayS y = true) : ∃ (i se m s r cu : Nat) (st : List Int) (go : Bool), y = ⟨i, se, ⟨m, s, r, st, cu, go⟩⟩ ∧ i ≠ 0 ∧ se < m ∧ 3 ≤ m ∧ m ≤ 16 ∧ 1 ≤ s ∧ s ≤ 64 ∧ 40 ≤ r ∧ r ≤ 256 ∧ cu < s ∧ (∀ j : Nat, j < 16 → rd st (j : Int) ≤ 2) := by
  simp only [mayS, Bool.and_eq_true, decide_eq_true_eq] at h
  obtain ⟨h1, ⟨h2, h3⟩, h4⟩ := h
  have hm := may_m h4
  have ho := (mayR_iff _).1 h4
  have hg := mayG_ok ho.1
  obtain ⟨i, se, ⟨m, s, r, st, cu, go⟩⟩ := y
  simp only at *
  obtain ⟨se, rfl⟩ : ∃ k : Nat, se = k := ⟨se.toNat, by omega⟩
  obtain ⟨m, rfl⟩ : ∃ k : Nat, m = k := ⟨m.toNat, by omega⟩
  obtain ⟨s, rfl⟩ : ∃ k : Nat, s = k := ⟨s.toNat, by omega⟩
  obtain ⟨r, rfl⟩ : ∃ k : Nat, r = k := ⟨r.toNat, by omega⟩
  obtain ⟨cu, rfl⟩ : ∃ k : Nat, cu = k := ⟨cu.toNat, by omega⟩
  exact ⟨i, se, m, s, r, cu, st, go, rfl, h1, by omega, by omega, by omega, by omega, by omega, by omega, by omega, by omega, fun j hj => (ho.2.2.2.1 j hj).1⟩
theorem bits_st {st : List Int} (hw : Wf8 st) (hl : st.length = 16) (h : ∀ j : Nat, j < 16 → rd st (j : Int) ≤ 2) : bitss st 2 = (pk st, 0) := by
  have h1 := bits_ok (xs := st) (s := 2) (by decide) (by decide) fun i hi => by
    have h2 := h i (by omega)
    show (rd st (i : Int)).toNat < 4
    omega
  rw [hl] at h1
  exact h1
theorem body_S (y : Su) (hx : Wf y.x) (hm : mayS y = true) (hi : y.id < 18446744073709551616) (w : World) :
    Calls Try.prog 143 #[sup y] w fun e w' => (∃ A k, e = .returned (.slice A (sbody y).length k) ∧ Byts w.heap.size w' A k (sbody y)) ∧ Below w.heap.size w w' := by
  obtain ⟨i, se, m, s, r, cu, st, go, rfl, h0, h1, h2, h3, h4, h5, h6, h7, h8, h9⟩ := may_nats hm
  have hl : st.length = 16 := hx.1
  have hb := bits_st hx.2 hl h9
  have b0 := put_n (s := 8) (n := i) hi (by decide) (puts_ok (by decide) (by decide) (by simpa using hi))
  have b1 := put_n (s := 1) (n := m) (by omega) (by decide) (puts_ok (by decide) (by decide) (by omega))
  have b2 := put_n (s := 2) (n := s) (by omega) (by decide) (puts_ok (by decide) (by decide) (by omega))
  have b3 := put_n (s := 2) (n := r) (by omega) (by decide) (puts_ok (by decide) (by decide) (by omega))
  have b4 := put_n (s := 1) (n := se) (by omega) (by decide) (puts_ok (by decide) (by decide) (by omega))
  have b6 := put_n (s := 2) (n := cu) (by omega) (by decide) (puts_ok (by decide) (by decide) (by omega))
  have pb : ∀ (A : Option Addr) (c : Nat) (w : World), ReadsInt w .u8 A 16 st → Calls Try.prog 34 #[.slice A 16 c, .int .i64 2] w fun e w' => (∃ A k, e = .returned (.tuple #[.slice A (pk st).length k, .int .i64 0]) ∧ Byts w.heap.size w' A k (pk st)) ∧ Below w.heap.size w w' := fun A c w hr => by
    have h := bits_n (k := 2) hx.2 (by show st.length ≤ _; omega) (by decide) hb A c w (by show ReadsInt _ _ _ st.length _; rw [hl]; exact hr)
    simp only [hl] at h
    exact h
  cases go with
  | true => exact sbody_t i se m s r cu st (Lib.hid hl) hi (by omega) h3 h5 h7 (by omega) (putb i 8) (putb m 1) (putb s 2) (putb r 2) (putb se 1) (pk st) (putb cu 2) (putb 1 1) (putb i 8) (putb i 8 ++ putb m 1) (putb i 8 ++ putb m 1 ++ putb s 2) (putb i 8 ++ putb m 1 ++ putb s 2 ++ putb r 2) (putb i 8 ++ putb m 1 ++ putb s 2 ++ putb r 2 ++ putb se 1) (putb i 8 ++ putb m 1 ++ putb s 2 ++ putb r 2 ++ putb se 1 ++ pk st) (putb i 8 ++ putb m 1 ++ putb s 2 ++ putb r 2 ++ putb se 1 ++ pk st ++ putb cu 2) (sbody ⟨i, (se : Int), ⟨(m : Int), (s : Int), (r : Int), st, (cu : Int), true⟩⟩) (Lib.hid b0) (Lib.hid b1) (Lib.hid b2) (Lib.hid b3) (Lib.hid b4) (Lib.hid b6) (Lib.hid (put_n (s := 1) (n := 1) (by decide) (by decide) (puts_ok (by decide) (by decide) (by decide)))) (Lib.hid pb) (Lib.hid rfl) (Lib.hid rfl) (Lib.hid rfl) (Lib.hid rfl) (Lib.hid rfl) (Lib.hid rfl) (Lib.hid rfl) (Lib.hid (by rw [show putb 1 1 = [1] by decide]; rfl)) (Lib.hid (by simp [putb_length, pk_length])) (Lib.hid (by simp [putb_length, pk_length])) (Lib.hid (by simp [putb_length, pk_length])) (Lib.hid (by simp [putb_length, pk_length])) (Lib.hid (by simp [putb_length, pk_length])) (Lib.hid (by simp [putb_length, pk_length])) (Lib.hid (by simp [putb_length, pk_length])) (Lib.hid (by simp [putb_length, pk_length])) w
  | false => exact sbody_f i se m s r cu st (Lib.hid hl) hi (by omega) h3 h5 h7 (by omega) (putb i 8) (putb m 1) (putb s 2) (putb r 2) (putb se 1) (pk st) (putb cu 2) (putb 0 1) (putb i 8) (putb i 8 ++ putb m 1) (putb i 8 ++ putb m 1 ++ putb s 2) (putb i 8 ++ putb m 1 ++ putb s 2 ++ putb r 2) (putb i 8 ++ putb m 1 ++ putb s 2 ++ putb r 2 ++ putb se 1) (putb i 8 ++ putb m 1 ++ putb s 2 ++ putb r 2 ++ putb se 1 ++ pk st) (putb i 8 ++ putb m 1 ++ putb s 2 ++ putb r 2 ++ putb se 1 ++ pk st ++ putb cu 2) (sbody ⟨i, (se : Int), ⟨(m : Int), (s : Int), (r : Int), st, (cu : Int), false⟩⟩) (Lib.hid b0) (Lib.hid b1) (Lib.hid b2) (Lib.hid b3) (Lib.hid b4) (Lib.hid b6) (Lib.hid (put_n (s := 1) (n := 0) (by decide) (by decide) (puts_ok (by decide) (by decide) (by decide)))) (Lib.hid pb) (Lib.hid rfl) (Lib.hid rfl) (Lib.hid rfl) (Lib.hid rfl) (Lib.hid rfl) (Lib.hid rfl) (Lib.hid rfl) (Lib.hid (by rw [show putb 0 1 = [0] by decide]; rfl)) (Lib.hid (by simp [putb_length, pk_length])) (Lib.hid (by simp [putb_length, pk_length])) (Lib.hid (by simp [putb_length, pk_length])) (Lib.hid (by simp [putb_length, pk_length])) (Lib.hid (by simp [putb_length, pk_length])) (Lib.hid (by simp [putb_length, pk_length])) (Lib.hid (by simp [putb_length, pk_length])) (Lib.hid (by simp [putb_length, pk_length])) w
theorem rbody_S (y : Su) (hx : Wf y.x) (hm : mayS y = true) (hi : y.id < 18446744073709551616) (w : World) :
    Calls Try.prog 141 #[sup y] w fun e w' => (∃ A k, e = .returned (.slice A (sbody y).length k) ∧ Byts w.heap.size w' A k (sbody y)) ∧ Below w.heap.size w w' := by
  obtain ⟨i, se, m, s, r, cu, st, go, rfl, h0, h1, h2, h3, h4, h5, h6, h7, h8, h9⟩ := may_nats hm
  have hl : st.length = 16 := hx.1
  have hb := bits_st hx.2 hl h9
  have b0 := rput_n (s := 8) (n := i) hi (by decide) (puts_ok (by decide) (by decide) (by simpa using hi))
  have b1 := rput_n (s := 1) (n := m) (by omega) (by decide) (puts_ok (by decide) (by decide) (by omega))
  have b2 := rput_n (s := 2) (n := s) (by omega) (by decide) (puts_ok (by decide) (by decide) (by omega))
  have b3 := rput_n (s := 2) (n := r) (by omega) (by decide) (puts_ok (by decide) (by decide) (by omega))
  have b4 := rput_n (s := 1) (n := se) (by omega) (by decide) (puts_ok (by decide) (by decide) (by omega))
  have b6 := rput_n (s := 2) (n := cu) (by omega) (by decide) (puts_ok (by decide) (by decide) (by omega))
  have pb : ∀ (A : Option Addr) (c : Nat) (w : World), ReadsInt w .u8 A 16 st → Calls Try.prog 35 #[.slice A 16 c, .int .i64 2] w fun e w' => (∃ A k, e = .returned (.tuple #[.slice A (pk st).length k, .int .i64 0]) ∧ Byts w.heap.size w' A k (pk st)) ∧ Below w.heap.size w w' := fun A c w hr => by
    have h := rBits_all A c st hx.2 2 (by decide) (by omega) w (by rw [hl]; exact hr)
    simp only [BitsP, hb, hl] at h
    exact h
  cases go with
  | true => exact rbody_t i se m s r cu st (Lib.hid hl) hi (by omega) h3 h5 h7 (by omega) (putb i 8) (putb m 1) (putb s 2) (putb r 2) (putb se 1) (pk st) (putb cu 2) (putb i 8) (putb i 8 ++ putb m 1) (putb i 8 ++ putb m 1 ++ putb s 2) (putb i 8 ++ putb m 1 ++ putb s 2 ++ putb r 2) (putb i 8 ++ putb m 1 ++ putb s 2 ++ putb r 2 ++ putb se 1) (putb i 8 ++ putb m 1 ++ putb s 2 ++ putb r 2 ++ putb se 1 ++ pk st) (putb i 8 ++ putb m 1 ++ putb s 2 ++ putb r 2 ++ putb se 1 ++ pk st ++ putb cu 2) (sbody ⟨i, (se : Int), ⟨(m : Int), (s : Int), (r : Int), st, (cu : Int), true⟩⟩) (Lib.hid b0) (Lib.hid b1) (Lib.hid b2) (Lib.hid b3) (Lib.hid b4) (Lib.hid b6) (Lib.hid pb) (Lib.hid rfl) (Lib.hid rfl) (Lib.hid rfl) (Lib.hid rfl) (Lib.hid rfl) (Lib.hid rfl) (Lib.hid rfl) (Lib.hid rfl) (Lib.hid (by simp [putb_length, pk_length])) (Lib.hid (by simp [putb_length, pk_length])) (Lib.hid (by simp [putb_length, pk_length])) (Lib.hid (by simp [putb_length, pk_length])) (Lib.hid (by simp [putb_length, pk_length])) (Lib.hid (by simp [putb_length, pk_length])) (Lib.hid (by simp [putb_length, pk_length])) (Lib.hid (by simp [putb_length, pk_length])) w
  | false => exact rbody_f i se m s r cu st (Lib.hid hl) hi (by omega) h3 h5 h7 (by omega) (putb i 8) (putb m 1) (putb s 2) (putb r 2) (putb se 1) (pk st) (putb cu 2) (putb i 8) (putb i 8 ++ putb m 1) (putb i 8 ++ putb m 1 ++ putb s 2) (putb i 8 ++ putb m 1 ++ putb s 2 ++ putb r 2) (putb i 8 ++ putb m 1 ++ putb s 2 ++ putb r 2 ++ putb se 1) (putb i 8 ++ putb m 1 ++ putb s 2 ++ putb r 2 ++ putb se 1 ++ pk st) (putb i 8 ++ putb m 1 ++ putb s 2 ++ putb r 2 ++ putb se 1 ++ pk st ++ putb cu 2) (sbody ⟨i, (se : Int), ⟨(m : Int), (s : Int), (r : Int), st, (cu : Int), false⟩⟩) (Lib.hid b0) (Lib.hid b1) (Lib.hid b2) (Lib.hid b3) (Lib.hid b4) (Lib.hid b6) (Lib.hid pb) (Lib.hid rfl) (Lib.hid rfl) (Lib.hid rfl) (Lib.hid rfl) (Lib.hid rfl) (Lib.hid rfl) (Lib.hid rfl) (Lib.hid rfl) (Lib.hid (by simp [putb_length, pk_length])) (Lib.hid (by simp [putb_length, pk_length])) (Lib.hid (by simp [putb_length, pk_length])) (Lib.hid (by simp [putb_length, pk_length])) (Lib.hid (by simp [putb_length, pk_length])) (Lib.hid (by simp [putb_length, pk_length])) (Lib.hid (by simp [putb_length, pk_length])) (Lib.hid (by simp [putb_length, pk_length])) w
set_option maxRecDepth 100000 in
set_option maxHeartbeats 2000000 in
theorem Put_A (n : Nat) (y : Su) (HL : Hid (y.x.st.length = 16)) (S D : List Int) (HS : Hid (S.length = 64))
    (PE : Hid (∀ w : World, Calls Try.prog 138 #[.int .u64 (n : Int)] w fun e w' => e = .returned (.bool false) ∧ Below w.heap.size w w')) (w : World) : Calls Try.prog 106 #[.int .u64 (n : Int), sup y] w fun e w' => e = .returned (.tuple #[blk zeros, .int .i64 2]) ∧ Below w.heap.size w w' := by
  have HB := Lib.hid (Below.refl w.heap.size w)
  have tok0 : True := trivial
  have tp0 : True := trivial
  go_enter Try.func106, Try.ntmps106
  go_wp2_with (first
    | (go_skip)
    | (refine supBox (.tmp 1) rfl rfl HL.out rfl ?_; intro w1 hk hb1 hz1; replace HB := Lib.hid (below_ext HB.out hb1); have K3 := Lib.hid hk; clear hk hb1)
    | (have _t := tok0; refine F.blkAlloc rfl rfl ?_; intro w2 hk hb2 hz2; replace K3 := Lib.hid (K3.out.below hb2); replace HB := Lib.hid (below_ext HB.out hb2); have K4 := Lib.hid hk; have tok1 : True := trivial; clear hk hb2 _t tok0)
    | (have _t := tp0; go_at_call 138; refine (PE.out _).mono ?_; rintro e w3 ⟨rfl, hb3⟩; replace K3 := Lib.hid (K3.out.below hb3); replace K4 := Lib.hid (K4.out.below hb3); replace HB := Lib.hid (below_ext HB.out hb3); have hz3 := hb3.size; clear hb3; have tp1 : True := trivial; clear _t tp0)
    | (refine supLoad (.tmp 3) rfl K3.out rfl rfl ?_)
    | (have _t := tp1; go_at_call 107; refine (trivial).mono ?_; rintro e w4 ⟨rfl, hb4⟩; replace K3 := Lib.hid (K3.out.below hb4); replace K4 := Lib.hid (K4.out.below hb4); replace HB := Lib.hid (below_ext HB.out hb4); have hz4 := hb4.size; clear hb4; have tp2 : True := trivial; clear _t tp1)
    | (refine F.blkBuild rfl rfl ?_)
    | (refine F.blkStore (.tmp 4) (.tmp 14) rfl K4.out rfl rfl zeros_length rfl ?_; intro w5 hk hg; replace HB := Lib.hid (below_at HB.out hg (by omega) K4.out.lt); replace K3 := Lib.hid (K3.out.grown hg (by omega)); replace K4 := Lib.hid hk; have hz5 := hg.size; clear hk hg))
  exact bodyPost_ret (v := .tuple #[blk zeros, .int .i64 2]) (ret_blk rfl _ _ K4.out rfl rfl) rfl ⟨rfl, HB.out⟩
set_option maxRecDepth 100000 in
set_option maxHeartbeats 2000000 in
theorem Put_B (n : Nat) (y : Su) (HL : Hid (y.x.st.length = 16)) (S D : List Int) (HS : Hid (S.length = 64))
    (PE : Hid (∀ w : World, Calls Try.prog 138 #[.int .u64 (n : Int)] w fun e w' => e = .returned (.bool true) ∧ Below w.heap.size w w'))
    (PM : Hid (∀ w : World, Calls Try.prog 107 #[sup y] w fun e w' => e = .returned (.bool false) ∧ Below w.heap.size w w')) (w : World) : Calls Try.prog 106 #[.int .u64 (n : Int), sup y] w fun e w' => e = .returned (.tuple #[blk zeros, .int .i64 2]) ∧ Below w.heap.size w w' := by
  have HB := Lib.hid (Below.refl w.heap.size w)
  have tok0 : True := trivial
  have tp0 : True := trivial
  go_enter Try.func106, Try.ntmps106
  go_wp2_with (first
    | (go_skip)
    | (refine supBox (.tmp 1) rfl rfl HL.out rfl ?_; intro w1 hk hb1 hz1; replace HB := Lib.hid (below_ext HB.out hb1); have K3 := Lib.hid hk; clear hk hb1)
    | (have _t := tok0; refine F.blkAlloc rfl rfl ?_; intro w2 hk hb2 hz2; replace K3 := Lib.hid (K3.out.below hb2); replace HB := Lib.hid (below_ext HB.out hb2); have K4 := Lib.hid hk; have tok1 : True := trivial; clear hk hb2 _t tok0)
    | (have _t := tp0; go_at_call 138; refine (PE.out _).mono ?_; rintro e w3 ⟨rfl, hb3⟩; replace K3 := Lib.hid (K3.out.below hb3); replace K4 := Lib.hid (K4.out.below hb3); replace HB := Lib.hid (below_ext HB.out hb3); have hz3 := hb3.size; clear hb3; have tp1 : True := trivial; clear _t tp0)
    | (refine supLoad (.tmp 3) rfl K3.out rfl rfl ?_)
    | (have _t := tp1; go_at_call 107; refine (PM.out _).mono ?_; rintro e w4 ⟨rfl, hb4⟩; replace K3 := Lib.hid (K3.out.below hb4); replace K4 := Lib.hid (K4.out.below hb4); replace HB := Lib.hid (below_ext HB.out hb4); have hz4 := hb4.size; clear hb4; have tp2 : True := trivial; clear _t tp1)
    | (refine F.blkBuild rfl rfl ?_)
    | (refine F.blkStore (.tmp 4) (.tmp 14) rfl K4.out rfl rfl zeros_length rfl ?_; intro w5 hk hg; replace HB := Lib.hid (below_at HB.out hg (by omega) K4.out.lt); replace K3 := Lib.hid (K3.out.grown hg (by omega)); replace K4 := Lib.hid hk; have hz5 := hg.size; clear hk hg))
  exact bodyPost_ret (v := .tuple #[blk zeros, .int .i64 2]) (ret_blk rfl _ _ K4.out rfl rfl) rfl ⟨rfl, HB.out⟩
set_option maxRecDepth 100000 in
set_option maxHeartbeats 2000000 in
theorem Put_C (n : Nat) (y : Su) (HL : Hid (y.x.st.length = 16)) (S D : List Int) (HS : Hid (S.length = 64))
    (PE : Hid (∀ w : World, Calls Try.prog 138 #[.int .u64 (n : Int)] w fun e w' => e = .returned (.bool true) ∧ Below w.heap.size w w'))
    (PM : Hid (∀ w : World, Calls Try.prog 107 #[sup y] w fun e w' => e = .returned (.bool true) ∧ Below w.heap.size w w'))
    (PB : Hid (∀ w : World, Calls Try.prog 143 #[sup y] w fun e w' => (∃ A k, e = .returned (.slice A D.length k) ∧ Byts w.heap.size w' A k D) ∧ Below w.heap.size w w'))
    (PP : Hid (∀ (A : Option Addr) (c : Nat) (w : World), ReadsInt w .u8 A D.length D → Calls Try.prog 56 #[.int .u64 (n : Int), .slice A D.length c] w fun e w' => e = .returned (.tuple #[blk S, .int .i64 0]) ∧ Below w.heap.size w w')) (w : World) : Calls Try.prog 106 #[.int .u64 (n : Int), sup y] w fun e w' => e = .returned (.tuple #[blk S, .int .i64 0]) ∧ Below w.heap.size w w' := by
  have HB := Lib.hid (Below.refl w.heap.size w)
  have tok0 : True := trivial
  have tp0 : True := trivial
  go_enter Try.func106, Try.ntmps106
  go_wp2_with (first
    | (go_skip)
    | (refine supBox (.tmp 1) rfl rfl HL.out rfl ?_; intro w1 hk hb1 hz1; replace HB := Lib.hid (below_ext HB.out hb1); have K3 := Lib.hid hk; clear hk hb1)
    | (have _t := tok0; refine F.blkAlloc rfl rfl ?_; intro w2 hk hb2 hz2; replace K3 := Lib.hid (K3.out.below hb2); replace HB := Lib.hid (below_ext HB.out hb2); have K4 := Lib.hid hk; have tok1 : True := trivial; clear hk hb2 _t tok0)
    | (have _t := tp0; go_at_call 138; refine (PE.out _).mono ?_; rintro e w3 ⟨rfl, hb3⟩; replace K3 := Lib.hid (K3.out.below hb3); replace K4 := Lib.hid (K4.out.below hb3); replace HB := Lib.hid (below_ext HB.out hb3); have hz3 := hb3.size; clear hb3; have tp1 : True := trivial; clear _t tp0)
    | (refine supLoad (.tmp 3) rfl K3.out rfl rfl ?_)
    | (have _t := tp1; go_at_call 107; refine (PM.out _).mono ?_; rintro e w4 ⟨rfl, hb4⟩; replace K3 := Lib.hid (K3.out.below hb4); replace K4 := Lib.hid (K4.out.below hb4); replace HB := Lib.hid (below_ext HB.out hb4); have hz4 := hb4.size; clear hb4; have tp2 : True := trivial; clear _t tp1)
    | (have _t := tp2; go_at_call 143; refine (PB.out _).mono ?_; rintro e w5 ⟨⟨A1, c1, rfl, o1⟩, hb5⟩; have O1 := Lib.hid o1; replace K3 := Lib.hid (K3.out.below hb5); replace K4 := Lib.hid (K4.out.below hb5); replace HB := Lib.hid (below_ext HB.out hb5); have hz5 := hb5.size; clear hb5; have tp3 : True := trivial; clear _t tp2)
    | (have _t := tp3; go_at_call 56; refine (PP.out _ _ _ O1.out.reads).mono ?_; rintro e w6 ⟨rfl, hb6⟩; replace K3 := Lib.hid (K3.out.below hb6); replace K4 := Lib.hid (K4.out.below hb6); replace O1 := Lib.hid (O1.out.below hb6); replace HB := Lib.hid (below_ext HB.out hb6); have hz6 := hb6.size; clear hb6; have tp4 : True := trivial; clear _t tp3)
    | (refine F.blkStore (.tmp 4) (.tmp 19) rfl K4.out rfl rfl HS.out rfl ?_; intro w7 hk hg; replace HB := Lib.hid (below_at HB.out hg (by omega) K4.out.lt); replace K3 := Lib.hid (K3.out.grown hg (by omega)); replace O1 := Lib.hid (Byts.grown O1.out hg (by omega)); replace K4 := Lib.hid hk; have hz7 := hg.size; clear hk hg))
  exact bodyPost_ret (v := .tuple #[blk S, .int .i64 0]) (ret_blk rfl _ _ K4.out rfl rfl) rfl ⟨rfl, HB.out⟩
set_option maxRecDepth 100000 in
set_option maxHeartbeats 2000000 in
theorem rPut_A (n : Nat) (y : Su) (HL : Hid (y.x.st.length = 16)) (S D : List Int) (HS : Hid (S.length = 64))
    (PE : Hid (∀ w : World, Calls Try.prog 140 #[.int .u64 (n : Int)] w fun e w' => e = .returned (.bool false) ∧ Below w.heap.size w w')) (w : World) : Calls Try.prog 108 #[.int .u64 (n : Int), sup y] w fun e w' => e = .returned (.tuple #[blk zeros, .int .i64 2]) ∧ Below w.heap.size w w' := by
  have HB := Lib.hid (Below.refl w.heap.size w)
  have tok0 : True := trivial
  have tp0 : True := trivial
  go_enter Try.func108, Try.ntmps108
  go_wp2_with (first
    | (go_skip)
    | (refine supBox (.tmp 1) rfl rfl HL.out rfl ?_; intro w1 hk hb1 hz1; replace HB := Lib.hid (below_ext HB.out hb1); have K3 := Lib.hid hk; clear hk hb1)
    | (have _t := tok0; refine F.blkAlloc rfl rfl ?_; intro w2 hk hb2 hz2; replace K3 := Lib.hid (K3.out.below hb2); replace HB := Lib.hid (below_ext HB.out hb2); have K4 := Lib.hid hk; have tok1 : True := trivial; clear hk hb2 _t tok0)
    | (have _t := tp0; go_at_call 140; refine (PE.out _).mono ?_; rintro e w3 ⟨rfl, hb3⟩; replace K3 := Lib.hid (K3.out.below hb3); replace K4 := Lib.hid (K4.out.below hb3); replace HB := Lib.hid (below_ext HB.out hb3); have hz3 := hb3.size; clear hb3; have tp1 : True := trivial; clear _t tp0)
    | (refine supLoad (.tmp 3) rfl K3.out rfl rfl ?_)
    | (have _t := tp1; go_at_call 109; refine (trivial).mono ?_; rintro e w4 ⟨rfl, hb4⟩; replace K3 := Lib.hid (K3.out.below hb4); replace K4 := Lib.hid (K4.out.below hb4); replace HB := Lib.hid (below_ext HB.out hb4); have hz4 := hb4.size; clear hb4; have tp2 : True := trivial; clear _t tp1)
    | (refine F.blkBuild rfl rfl ?_)
    | (refine F.blkStore (.tmp 4) (.tmp 14) rfl K4.out rfl rfl zeros_length rfl ?_; intro w5 hk hg; replace HB := Lib.hid (below_at HB.out hg (by omega) K4.out.lt); replace K3 := Lib.hid (K3.out.grown hg (by omega)); replace K4 := Lib.hid hk; have hz5 := hg.size; clear hk hg))
  exact bodyPost_ret (v := .tuple #[blk zeros, .int .i64 2]) (ret_blk rfl _ _ K4.out rfl rfl) rfl ⟨rfl, HB.out⟩
set_option maxRecDepth 100000 in
set_option maxHeartbeats 2000000 in
theorem rPut_B (n : Nat) (y : Su) (HL : Hid (y.x.st.length = 16)) (S D : List Int) (HS : Hid (S.length = 64))
    (PE : Hid (∀ w : World, Calls Try.prog 140 #[.int .u64 (n : Int)] w fun e w' => e = .returned (.bool true) ∧ Below w.heap.size w w'))
    (PM : Hid (∀ w : World, Calls Try.prog 109 #[sup y] w fun e w' => e = .returned (.bool false) ∧ Below w.heap.size w w')) (w : World) : Calls Try.prog 108 #[.int .u64 (n : Int), sup y] w fun e w' => e = .returned (.tuple #[blk zeros, .int .i64 2]) ∧ Below w.heap.size w w' := by
  have HB := Lib.hid (Below.refl w.heap.size w)
  have tok0 : True := trivial
  have tp0 : True := trivial
  go_enter Try.func108, Try.ntmps108
  go_wp2_with (first
    | (go_skip)
    | (refine supBox (.tmp 1) rfl rfl HL.out rfl ?_; intro w1 hk hb1 hz1; replace HB := Lib.hid (below_ext HB.out hb1); have K3 := Lib.hid hk; clear hk hb1)
    | (have _t := tok0; refine F.blkAlloc rfl rfl ?_; intro w2 hk hb2 hz2; replace K3 := Lib.hid (K3.out.below hb2); replace HB := Lib.hid (below_ext HB.out hb2); have K4 := Lib.hid hk; have tok1 : True := trivial; clear hk hb2 _t tok0)
    | (have _t := tp0; go_at_call 140; refine (PE.out _).mono ?_; rintro e w3 ⟨rfl, hb3⟩; replace K3 := Lib.hid (K3.out.below hb3); replace K4 := Lib.hid (K4.out.below hb3); replace HB := Lib.hid (below_ext HB.out hb3); have hz3 := hb3.size; clear hb3; have tp1 : True := trivial; clear _t tp0)
    | (refine supLoad (.tmp 3) rfl K3.out rfl rfl ?_)
    | (have _t := tp1; go_at_call 109; refine (PM.out _).mono ?_; rintro e w4 ⟨rfl, hb4⟩; replace K3 := Lib.hid (K3.out.below hb4); replace K4 := Lib.hid (K4.out.below hb4); replace HB := Lib.hid (below_ext HB.out hb4); have hz4 := hb4.size; clear hb4; have tp2 : True := trivial; clear _t tp1)
    | (refine F.blkBuild rfl rfl ?_)
    | (refine F.blkStore (.tmp 4) (.tmp 14) rfl K4.out rfl rfl zeros_length rfl ?_; intro w5 hk hg; replace HB := Lib.hid (below_at HB.out hg (by omega) K4.out.lt); replace K3 := Lib.hid (K3.out.grown hg (by omega)); replace K4 := Lib.hid hk; have hz5 := hg.size; clear hk hg))
  exact bodyPost_ret (v := .tuple #[blk zeros, .int .i64 2]) (ret_blk rfl _ _ K4.out rfl rfl) rfl ⟨rfl, HB.out⟩
set_option maxRecDepth 100000 in
set_option maxHeartbeats 2000000 in
theorem rPut_C (n : Nat) (y : Su) (HL : Hid (y.x.st.length = 16)) (S D : List Int) (HS : Hid (S.length = 64))
    (PE : Hid (∀ w : World, Calls Try.prog 140 #[.int .u64 (n : Int)] w fun e w' => e = .returned (.bool true) ∧ Below w.heap.size w w'))
    (PM : Hid (∀ w : World, Calls Try.prog 109 #[sup y] w fun e w' => e = .returned (.bool true) ∧ Below w.heap.size w w'))
    (PB : Hid (∀ w : World, Calls Try.prog 141 #[sup y] w fun e w' => (∃ A k, e = .returned (.slice A D.length k) ∧ Byts w.heap.size w' A k D) ∧ Below w.heap.size w w'))
    (PP : Hid (∀ (A : Option Addr) (c : Nat) (w : World), ReadsInt w .u8 A D.length D → Calls Try.prog 57 #[.int .u64 (n : Int), .slice A D.length c] w fun e w' => e = .returned (.tuple #[blk S, .int .i64 0]) ∧ Below w.heap.size w w')) (w : World) : Calls Try.prog 108 #[.int .u64 (n : Int), sup y] w fun e w' => e = .returned (.tuple #[blk S, .int .i64 0]) ∧ Below w.heap.size w w' := by
  have HB := Lib.hid (Below.refl w.heap.size w)
  have tok0 : True := trivial
  have tp0 : True := trivial
  go_enter Try.func108, Try.ntmps108
  go_wp2_with (first
    | (go_skip)
    | (refine supBox (.tmp 1) rfl rfl HL.out rfl ?_; intro w1 hk hb1 hz1; replace HB := Lib.hid (below_ext HB.out hb1); have K3 := Lib.hid hk; clear hk hb1)
    | (have _t := tok0; refine F.blkAlloc rfl rfl ?_; intro w2 hk hb2 hz2; replace K3 := Lib.hid (K3.out.below hb2); replace HB := Lib.hid (below_ext HB.out hb2); have K4 := Lib.hid hk; have tok1 : True := trivial; clear hk hb2 _t tok0)
    | (have _t := tp0; go_at_call 140; refine (PE.out _).mono ?_; rintro e w3 ⟨rfl, hb3⟩; replace K3 := Lib.hid (K3.out.below hb3); replace K4 := Lib.hid (K4.out.below hb3); replace HB := Lib.hid (below_ext HB.out hb3); have hz3 := hb3.size; clear hb3; have tp1 : True := trivial; clear _t tp0)
    | (refine supLoad (.tmp 3) rfl K3.out rfl rfl ?_)
    | (have _t := tp1; go_at_call 109; refine (PM.out _).mono ?_; rintro e w4 ⟨rfl, hb4⟩; replace K3 := Lib.hid (K3.out.below hb4); replace K4 := Lib.hid (K4.out.below hb4); replace HB := Lib.hid (below_ext HB.out hb4); have hz4 := hb4.size; clear hb4; have tp2 : True := trivial; clear _t tp1)
    | (have _t := tp2; go_at_call 141; refine (PB.out _).mono ?_; rintro e w5 ⟨⟨A1, c1, rfl, o1⟩, hb5⟩; have O1 := Lib.hid o1; replace K3 := Lib.hid (K3.out.below hb5); replace K4 := Lib.hid (K4.out.below hb5); replace HB := Lib.hid (below_ext HB.out hb5); have hz5 := hb5.size; clear hb5; have tp3 : True := trivial; clear _t tp2)
    | (have _t := tp3; go_at_call 57; refine (PP.out _ _ _ O1.out.reads).mono ?_; rintro e w6 ⟨rfl, hb6⟩; replace K3 := Lib.hid (K3.out.below hb6); replace K4 := Lib.hid (K4.out.below hb6); replace O1 := Lib.hid (O1.out.below hb6); replace HB := Lib.hid (below_ext HB.out hb6); have hz6 := hb6.size; clear hb6; have tp4 : True := trivial; clear _t tp3)
    | (refine F.blkStore (.tmp 4) (.tmp 19) rfl K4.out rfl rfl HS.out rfl ?_; intro w7 hk hg; replace HB := Lib.hid (below_at HB.out hg (by omega) K4.out.lt); replace K3 := Lib.hid (K3.out.grown hg (by omega)); replace O1 := Lib.hid (Byts.grown O1.out hg (by omega)); replace K4 := Lib.hid hk; have hz7 := hg.size; clear hk hg))
  exact bodyPost_ret (v := .tuple #[blk S, .int .i64 0]) (ret_blk rfl _ _ K4.out rfl rfl) rfl ⟨rfl, HB.out⟩
noncomputable def okS (n : Nat) (y : Su) : Bool := decide (1 ≤ n ∧ n ≤ 4611686018427387904) && mayS y
noncomputable def supers (n : Nat) (y : Su) : List Int × Int := if okS n y = true then (sealed n (sbody y), 0) else (zeros, 2)
theorem Put_S (n : Nat) (hn : n < 18446744073709551616) (y : Su) (hx : Wf y.x) (hi : y.id < 18446744073709551616) (w : World) : Calls Try.prog 106 #[.int .u64 (n : Int), sup y] w fun e w' => e = .returned (.tuple #[blk (supers n y).1, .int .i64 (supers n y).2]) ∧ Below w.heap.size w w' := by
  have pe := fun w => event_any n _ rfl w
  have pm := fun w => sMay_any y hx w
  have hl := Lib.hid hx.1
  by_cases h1 : 1 ≤ n ∧ n ≤ 4611686018427387904
  · rw [decide_eq_true h1] at pe
    cases hm : mayS y with
    | false =>
      rw [hm] at pm
      rw [supers, if_neg (by rw [okS, hm, Bool.and_false]; exact Bool.false_ne_true)]
      exact Put_B n y hl zeros [] (Lib.hid zeros_length) (Lib.hid pe) (Lib.hid pm) w
    | true =>
      rw [hm] at pm
      rw [supers, if_pos (by rw [okS, hm, decide_eq_true h1]; rfl)]
      have hS : (sealed n (sbody y)).length = 64 := sealed_length (by rw [sbody_length]; decide)
      exact Put_C n y hl _ (sbody y) (Lib.hid hS) (Lib.hid pe) (Lib.hid pm) (Lib.hid fun w => body_S y hx hm hi w) (Lib.hid (put_b (n := n) (ys := sbody y) hn (sbody_wf y) (seals_ok (by omega) (by rw [sbody_length]; decide)))) w
  · rw [decide_eq_false h1] at pe
    rw [supers, if_neg (by rw [okS, decide_eq_false h1, Bool.false_and]; exact Bool.false_ne_true)]
    exact Put_A n y hl zeros [] (Lib.hid zeros_length) (Lib.hid pe) w
theorem rPut_S (n : Nat) (hn : n < 18446744073709551616) (y : Su) (hx : Wf y.x) (hi : y.id < 18446744073709551616) (w : World) : Calls Try.prog 108 #[.int .u64 (n : Int), sup y] w fun e w' => e = .returned (.tuple #[blk (supers n y).1, .int .i64 (supers n y).2]) ∧ Below w.heap.size w w' := by
  have pe := fun w => revent_any n _ rfl w
  have pm := fun w => rsMay_any y hx w
  have hl := Lib.hid hx.1
  by_cases h1 : 1 ≤ n ∧ n ≤ 4611686018427387904
  · rw [decide_eq_true h1] at pe
    cases hm : mayS y with
    | false =>
      rw [hm] at pm
      rw [supers, if_neg (by rw [okS, hm, Bool.and_false]; exact Bool.false_ne_true)]
      exact rPut_B n y hl zeros [] (Lib.hid zeros_length) (Lib.hid pe) (Lib.hid pm) w
    | true =>
      rw [hm] at pm
      rw [supers, if_pos (by rw [okS, hm, decide_eq_true h1]; rfl)]
      have hS : (sealed n (sbody y)).length = 64 := sealed_length (by rw [sbody_length]; decide)
      exact rPut_C n y hl _ (sbody y) (Lib.hid hS) (Lib.hid pe) (Lib.hid pm) (Lib.hid fun w => rbody_S y hx hm hi w) (Lib.hid (rput_b (n := n) (ys := sbody y) hn (sbody_wf y) (seals_ok (by omega) (by rw [sbody_length]; decide)))) w
  · rw [decide_eq_false h1] at pe
    rw [supers, if_neg (by rw [okS, decide_eq_false h1, Bool.false_and]; exact Bool.false_ne_true)]
    exact rPut_A n y hl zeros [] (Lib.hid zeros_length) (Lib.hid pe) w
end Go.Proofs.Ytdchcggllcgokaa.Q
