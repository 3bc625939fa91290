/-
  Rosters are compared: one law. Rosters are compared, as steps; Missing whole. Has, Gone, Heals whole. Has, Gone, New, Lose, Begin, State, Next whole, of roster and of ashlarref10. State, Next whole, of roster and of ashlarref10. Rosters are compared: the laws as steps, the operation's shape first. ashlarlaw10.two, geo, lives: the walks; plain laws of counts. ashlarlaw10.lives.
-/
import Derived.Test.YtdchcggllcgokaaSpG
namespace Go.Proofs.Ytdchcggllcgokaa.Q
open Go.RowKit Go.Proofs.Ytdchcggllcgokaa.L Go.Proofs.Ytdchcggllcgokaa.R Go.Proofs.YtdchcggllcgokaaW.PrintWords
set_option linter.unusedVariables false
set_option linter.unusedSimpArgs false
theorem part_plain {P : Program} {t : TypeId} (hag : ∀ w : World, (isAgg t).run P w = .ok false w) {cs : Array Value} {o : Nat} {v : Value} (h : cs[o]? = some v) (w : World) : (part t cs o).run P w = .ok v w := by
  simp [part, hag, h]
theorem part_agg {P : Program} {t : TypeId} {n : Nat} (hag : ∀ w : World, (isAgg t).run P w = .ok true w) (hsz : ∀ w : World, (sizeOf t).run P w = .ok n w) {cs ds : Array Value} {o : Nat} (h : cs.extract o (o + n) = ds) (w : World) : (part t cs o).run P w = .ok (.agg ds) w := by
  simp [part, hag, hsz, h]
theorem agg_geo (w : World) : (isAgg 68).run Try.prog w = .ok true w := by kernel_rfl
theorem agg_sts (w : World) : (isAgg 70).run Try.prog w = .ok true w := by kernel_rfl
theorem size_geo (w : World) : (sizeOf 68).run Try.prog w = .ok 3 w := by kernel_rfl
theorem size_sts (w : World) : (sizeOf 70).run Try.prog w = .ok 16 w := by kernel_rfl
theorem ex_geo (x : Ro) : (rosL x).toArray.extract 0 (0 + 3) = #[.int .i64 x.m, .int .i64 x.s, .int .i64 x.r] := by
  simp [rosL]
theorem ex_sts {x : Ro} (h : x.st.length = 16) : (rosL x).toArray.extract 3 (3 + 16) = (nums .u8 x.st).toArray := by
  have hn : (nums .u8 x.st).length = 16 := by rw [nums_length, h]
  simp [rosL, hn]
theorem run_eqg (d : Nat) (w : World) (m s r m' s' r' : Int) : (Op.equalIn (d + 2) 68 (.agg #[.int .i64 m, .int .i64 s, .int .i64 r]) (.agg #[.int .i64 m', .int .i64 s', .int .i64 r'])).run Try.prog w = .ok (m == m' && (s == s' && r == r')) w := by
  refine eqA_of Try.underlying68 (by kernel_rfl) ?_
  refine eqf_cons rfl (part_plain agg_int rfl w) (part_plain agg_int rfl w) (run_equalIn_int w _ _ _ .i64 _ _ Try.underlying3) ?_
  refine eqf_cons rfl (part_plain agg_int rfl w) (part_plain agg_int rfl w) (run_equalIn_int w _ _ _ .i64 _ _ Try.underlying3) ?_
  exact eqf_last rfl (part_plain agg_int rfl w) (part_plain agg_int rfl w) (run_equalIn_int w _ _ _ .i64 _ _ Try.underlying3)
def eqR (x y : Ro) : Bool := (x.m == y.m && (x.s == y.s && x.r == y.r)) && (decide (x.st = y.st) && (x.cu == y.cu && x.go == y.go))
theorem run_eqr (w : World) {x y : Ro} (hx : x.st.length = 16) (hy : y.st.length = 16) : (Op.equalIn 10000 72 (ros x) (ros y)).run Try.prog w = .ok (eqR x y) w := by
  unfold ros eqR
  refine eqA_of Try.underlying72 (by kernel_rfl) ?_
  refine eqf_cons rfl (part_agg agg_geo size_geo (ex_geo x) w) (part_agg agg_geo size_geo (ex_geo y) w) (run_eqg 9997 w _ _ _ _ _ _) ?_
  refine eqf_cons rfl (part_agg agg_sts size_sts (ex_sts hx) w) (part_agg agg_sts size_sts (ex_sts hy) w) (run_equalIn_ints w 9997 _ _ 16 .u8 Try.underlying70 R.under_u8 R.size_u8 x.st y.st hx hy) ?_
  refine eqf_cons rfl (part_plain agg_int (by simpa using at_cu hx) w) (part_plain agg_int (by simpa using at_cu hy) w) (run_equalIn_int w _ _ _ .i64 _ _ Try.underlying3) ?_
  exact eqf_last rfl (part_plain agg_bool (by simpa using at_go hx) w) (part_plain agg_bool (by simpa using at_go hy) w) (run_equalIn_bool' w _ _ _ _ Try.underlying4)
theorem eqR_iff (x y : Ro) : eqR x y = true ↔ x = y := by
  obtain ⟨m, s, r, st, cu, go⟩ := x
  obtain ⟨m', s', r', st', cu', go'⟩ := y
  simp [eqR]
  constructor
  · rintro ⟨⟨rfl, rfl, rfl⟩, rfl, rfl, rfl⟩; exact ⟨rfl, rfl, rfl, rfl, rfl, rfl⟩
  · rintro ⟨rfl, rfl, rfl, rfl, rfl, rfl⟩; exact ⟨⟨rfl, rfl, rfl⟩, rfl, rfl, rfl⟩
end Go.Proofs.Ytdchcggllcgokaa.Q

namespace Go.Proofs.Ytdchcggllcgokaa.Q
open Go.RowKit Go.Proofs.Ytdchcggllcgokaa.L Go.Proofs.Ytdchcggllcgokaa.R Go.Proofs.YtdchcggllcgokaaW.PrintWords
set_option linter.unusedVariables false
set_option linter.unusedSimpArgs false
theorem guard_ros : Try.prog.eqGuardType Try.prog.depth 72 = false := by kernel_rfl
theorem run_rosEql (x y : Operand) (t : TypeId) {A : Act} {op : Oper} (ho : op.op = .binOp .eql 72 x y t) {u v : Ro} (hx : A.eval x = ros u) (hy : A.eval y = ros v) (hu : u.st.length = 16) (hv : v.st.length = 16) (b : Bool) (hb : eqR u v = b) (w : World) :
    (execOp A.eval op).run Try.prog w = .ok (.value (.bool b)) w := by
  subst hb
  have h1 : (eqGuard .eql 72 x y (ros u) (ros v)).run Try.prog w = .ok () w := run_eqGuard_agg w .eql _ x y _ _ guard_ros
  have h2 : (binOp .eql 72 (ros u) (ros v)).run Try.prog w = .ok (.bool (eqR u v)) w := by
    unfold ros
    rw [run_eql_struct]
    have h3 := run_eqr w hu hv
    unfold ros at h3
    rw [h3]; rfl
  unfold execOp
  simp only [ho, hx, hy, Sem.run_bind, Sem.run_map, h1, h2, Result.andThen_ok, Sem.run_pure]
theorem run_rosNeq (x y : Operand) (t : TypeId) {A : Act} {op : Oper} (ho : op.op = .binOp .neq 72 x y t) {u v : Ro} (hx : A.eval x = ros u) (hy : A.eval y = ros v) (hu : u.st.length = 16) (hv : v.st.length = 16) (b : Bool) (hb : (!eqR u v) = b) (w : World) :
    (execOp A.eval op).run Try.prog w = .ok (.value (.bool b)) w := by
  subst hb
  have h1 : (eqGuard .neq 72 x y (ros u) (ros v)).run Try.prog w = .ok () w := run_eqGuard_agg w .neq _ x y _ _ guard_ros
  have h2 : (binOp .neq 72 (ros u) (ros v)).run Try.prog w = .ok (.bool (!eqR u v)) w := by
    unfold ros
    rw [run_neq_struct]
    have h3 := run_eqr w hu hv
    unfold ros at h3
    rw [h3]; rfl
  unfold execOp
  simp only [ho, hx, hy, Sem.run_bind, Sem.run_map, h1, h2, Result.andThen_ok, Sem.run_pure]
noncomputable def missR (x : Ro) : Nat := if mayR x = true then 16 - cnt x.st 0 16 else 0
theorem Missing_any (x : Ro) (hx : Wf x) (w : World) : Calls Try.prog 92 #[ros x] w fun e w' => e = .returned (.int .i64 (missR x : Int)) ∧ Below w.heap.size w w' := by
  have p := fun w => May_any x hx w
  have hc := cnt_le x.st 0 16
  cases hm : mayR x with
  | false =>
    rw [hm] at p
    rw [missR, if_neg (by rw [hm]; exact Bool.false_ne_true)]
    exact Missing_A x (Lib.hid hx.1) (Lib.hid p) w
  | true =>
    rw [hm] at p
    rw [missR, if_pos hm, show ((16 - cnt x.st 0 16 : Nat) : Int) = 16 - (cnt x.st 0 16 : Int) by omega]
    exact Missing_B x (Lib.hid hx.1) _ hc (Lib.hid p) (Lib.hid fun w => count_any x hx.1 0 w) w
theorem rMissing_any (x : Ro) (hx : Wf x) (w : World) : Calls Try.prog 93 #[ros x] w fun e w' => e = .returned (.int .i64 (missR x : Int)) ∧ Below w.heap.size w w' := by
  have p := fun w => rMay_any x hx w
  cases hm : mayR x with
  | false =>
    rw [hm] at p
    rw [missR, if_neg (by rw [hm]; exact Bool.false_ne_true)]
    exact rMissing_A x (Lib.hid hx.1) (Lib.hid p) w
  | true =>
    rw [hm] at p
    rw [missR, if_pos hm]
    exact rMissing_B x (Lib.hid hx.1) (Lib.hid p) w
end Go.Proofs.Ytdchcggllcgokaa.Q

namespace Go.Proofs.Ytdchcggllcgokaa.Q
open Go.RowKit Go.Proofs.Ytdchcggllcgokaa.L Go.Proofs.Ytdchcggllcgokaa.R Go.Proofs.YtdchcggllcgokaaW.PrintWords
set_option linter.unusedVariables false
set_option linter.unusedSimpArgs false
/-- the first that heals -/
theorem first2 (l : List Int) : (∀ j : Nat, j < 16 → rd l (j : Int) ≠ 2) ∨ ∃ k : Nat, k < 16 ∧ rd l (k : Int) = 2 ∧ ∀ j : Nat, j < k → rd l (j : Int) ≠ 2 := by
  by_cases h : ∃ k : Nat, k < 16 ∧ rd l (k : Int) = 2
  · obtain ⟨k0, hk0, h10⟩ := h
    refine .inr ?_
    induction k0 using Nat.strongRecOn with
    | _ k0 ih =>
      by_cases h : ∃ j : Nat, j < k0 ∧ rd l (j : Int) = 2
      · obtain ⟨j, hj, hj2⟩ := h
        exact ih j hj (by omega) hj2
      · exact ⟨k0, hk0, h10, fun j hj h2 => h ⟨j, hj, h2⟩⟩
  · exact .inl fun j hj h2 => h ⟨j, hj, h2⟩
/-- both tell the same -/
theorem Heals_same (x : Ro) (hx : Wf x) : ∃ (k : Int) (b : Bool), (∀ w : World, Calls Try.prog 68 #[ros x] w fun e w' => e = .returned (.tuple #[.int .i64 k, .bool b]) ∧ Below w.heap.size w w') ∧ (∀ w : World, Calls Try.prog 96 #[ros x] w fun e w' => e = .returned (.tuple #[.int .i64 k, .bool b]) ∧ Below w.heap.size w w') ∧ ((mayR x = false ∧ k = 0 ∧ b = false) ∨ (mayR x = true ∧ k = 0 ∧ b = false ∧ ∀ j : Nat, j < 16 → rd x.st (j : Int) ≠ 2) ∨ (mayR x = true ∧ b = true ∧ ∃ q : Nat, k = q ∧ q < 16 ∧ rd x.st (q : Int) = 2 ∧ ∀ j : Nat, j < q → rd x.st (j : Int) ≠ 2)) := by
  have p := fun w => May_any x hx w
  have r := fun w => rMay_any x hx w
  have hl := Lib.hid hx.1
  cases hm : mayR x with
  | false =>
    rw [hm] at p r
    exact ⟨0, false, fun w => Heals_A x hl (Lib.hid p) w, fun w => rHeals_A x hl (Lib.hid r) w, .inl ⟨rfl, rfl, rfl⟩⟩
  | true =>
    rw [hm] at p r
    rcases first2 x.st with h | ⟨k, hk, h2, h⟩
    · exact ⟨0, false, fun w => Heals_B x hl (Lib.hid h) (Lib.hid p) w, fun w => rHeals_B x hl (Lib.hid h) (Lib.hid r) w, .inr (.inl ⟨rfl, rfl, rfl, h⟩)⟩
    · exact ⟨(k : Int), true, fun w => Heals_C x hl k hk (Lib.hid h2) (Lib.hid h) (Lib.hid p) w, fun w => rHeals_C x hl k hk (Lib.hid h2) (Lib.hid h) (Lib.hid r) w, .inr (.inr ⟨rfl, rfl, k, rfl, hk, h2, h⟩)⟩
end Go.Proofs.Ytdchcggllcgokaa.Q

namespace Go.Proofs.Ytdchcggllcgokaa.Q
open Go.RowKit Go.Proofs.Ytdchcggllcgokaa.L Go.Proofs.Ytdchcggllcgokaa.R Go.Proofs.YtdchcggllcgokaaW.PrintWords
set_option linter.unusedVariables false
set_option linter.unusedSimpArgs false
theorem may_m {x : Ro} (h : mayR x = true) : 3 ≤ x.m ∧ x.m ≤ 16 ∧ 1 ≤ x.s ∧ x.s ≤ 64 ∧ 0 ≤ x.cu ∧ x.cu < x.s := by
  have h1 := (mayR_iff x).1 h
  have h2 := mayG_ok h1.1
  exact ⟨h2.1, h2.2.1, h2.2.2.1, h2.2.2.2.1, h1.2.1, h1.2.2.1⟩
theorem memR_no {x : Ro} {i : Int} (h : mayR x = false) : memR x i = false := by rw [memR, h]; rfl
theorem memR_is {x : Ro} (h : mayR x = true) (i : Int) : memR x i = isM x i := by rw [memR, h]; rfl
theorem memR_nat {x : Ro} {i : Int} (h : memR x i = true) : ∃ k : Nat, i = k ∧ k < 16 ∧ (k : Int) < x.m ∧ mayR x = true := by
  rw [memR, Bool.and_eq_true, decide_eq_true_eq] at h
  obtain ⟨h1, h2, h3⟩ := h
  have h4 := may_m h1
  exact ⟨i.toNat, by omega, by omega, by omega, h1⟩
theorem rd_set {l : List Int} {i : Nat} (hi : i < l.length) (v : Int) (j : Nat) : rd (l.set i v) (j : Int) = if j = i then v else rd l (j : Int) := by
  rw [rd, rd, Int.toNat_natCast, List.getD_eq_getElem?_getD, List.getD_eq_getElem?_getD]
  by_cases h : j = i
  · subst h; rw [if_pos rfl, List.getElem?_set_self hi]; rfl
  · rw [if_neg h, List.getElem?_set_ne (by omega)]
theorem set_rd {l : List Int} {i : Nat} (hi : i < l.length) {v : Int} (h : rd l (i : Int) = v) : l.set i v = l := by
  rw [rd, Int.toNat_natCast, List.getD_eq_getElem?_getD, List.getElem?_eq_getElem hi, Option.getD_some] at h
  subst h
  exact List.set_getElem_self _
theorem Wf.set {x : Ro} (h : Wf x) (i : Nat) {v : Int} (hv : (Lit.int .u8 v).wf = true) (cu : Int) (go : Bool) : Wf { x with st := x.st.set i v, cu := cu, go := go } := by
  refine ⟨by rw [List.length_set]; exact h.1, fun u hu => ?_⟩
  rcases List.mem_or_eq_of_mem_set hu with h1 | h1
  · exact h.2 u h1
  · subst h1; exact hv
theorem Wf_ro0 : Wf ro0 := ⟨zero16_length, fun v hv => by
  rw [List.eq_of_mem_replicate hv]; rfl⟩
theorem Wf_rog (m s r : Int) : Wf { ro0 with m := m, s := s, r := r } := ⟨zero16_length, fun v hv => by
  rw [List.eq_of_mem_replicate hv]; rfl⟩
noncomputable def hasR (x : Ro) (i j : Int) : Bool := memR x i && (decide (0 ≤ j ∧ j < x.s) && (rd x.st i == 0 || (rd x.st i == 2 && decide (j < x.cu))))
theorem Has_any (x : Ro) (hx : Wf x) (i j : Int) (w : World) : Calls Try.prog 70 #[ros x, .int .i64 i, .int .i64 j] w fun e w' => e = .returned (.bool (hasR x i j)) ∧ Below w.heap.size w w' := by
  have p := fun w => member_any x hx i w
  have hl := Lib.hid hx.1
  cases hm : memR x i with
  | false =>
    rw [hm] at p
    rw [hasR, hm, Bool.false_and]
    exact Has_A x hl i j (Lib.hid p) w
  | true =>
    rw [hm] at p
    rw [hasR, hm, Bool.true_and]
    by_cases h1 : j < 0
    · rw [decide_eq_false (by omega), Bool.false_and]
      exact Has_B x hl i j h1 (Lib.hid p) w
    by_cases h2 : x.s ≤ j
    · rw [decide_eq_false (by omega), Bool.false_and]
      exact Has_C x hl i j (by omega) h2 (Lib.hid p) w
    rw [decide_eq_true (show 0 ≤ j ∧ j < x.s by omega), Bool.true_and]
    obtain ⟨k, rfl, hk, -, -⟩ := memR_nat hm
    cases h3 : (rd x.st (k : Int) == 0) with
    | true => exact Has_D x hl k j hk (by omega) (by omega) h3 (Lib.hid p) w
    | false =>
      cases h4 : (rd x.st (k : Int) == 2) with
      | true => exact Has_E x hl k j hk (by omega) (by omega) h3 h4 _ rfl (Lib.hid p) w
      | false => exact Has_F x hl k j hk (by omega) (by omega) h3 h4 (Lib.hid p) w
theorem rHas_any (x : Ro) (hx : Wf x) (i j : Int) (w : World) : Calls Try.prog 91 #[ros x, .int .i64 i, .int .i64 j] w fun e w' => e = .returned (.bool (hasR x i j)) ∧ Below w.heap.size w w' := by
  have y := fun w => rMay_any x hx w
  have p := fun w => rmember_any x hx.1 i w
  have hl := Lib.hid hx.1
  cases hy : mayR x with
  | false =>
    rw [hy] at y
    rw [hasR, memR_no hy, Bool.false_and]
    exact rHas_A x hl i j (Lib.hid y) w
  | true =>
  rw [hy] at y
  rw [← memR_is hy] at p
  cases hm : memR x i with
  | false =>
    rw [hm] at p
    rw [hasR, hm, Bool.false_and]
    exact rHas_B x hl i j (Lib.hid y) (Lib.hid p) w
  | true =>
    rw [hm] at p
    rw [hasR, hm, Bool.true_and]
    by_cases h1 : j < 0
    · rw [decide_eq_false (by omega), Bool.false_and]
      exact rHas_C x hl i j h1 (Lib.hid y) (Lib.hid p) w
    by_cases h2 : x.s ≤ j
    · rw [decide_eq_false (by omega), Bool.false_and]
      exact rHas_D x hl i j (by omega) h2 (Lib.hid y) (Lib.hid p) w
    rw [decide_eq_true (show 0 ≤ j ∧ j < x.s by omega), Bool.true_and]
    obtain ⟨k, rfl, hk, -, -⟩ := memR_nat hm
    cases h3 : (rd x.st (k : Int) == 0) with
    | true => exact rHas_E x hl k j hk (by omega) (by omega) h3 (Lib.hid y) (Lib.hid p) w
    | false =>
      cases h4 : (rd x.st (k : Int) == 2) with
      | true => exact rHas_F x hl k j hk (by omega) (by omega) h3 h4 _ rfl (Lib.hid y) (Lib.hid p) w
      | false => exact rHas_G x hl k j hk (by omega) (by omega) h3 h4 (Lib.hid y) (Lib.hid p) w
noncomputable def goneR (x : Ro) (b : Bool) : Ro × Int := if mayR x = true then ({ x with go := b }, 0) else (ro0, 2)
theorem Gone_any (x : Ro) (hx : Wf x) (b : Bool) (w : World) : Calls Try.prog 100 #[ros x, .bool b] w fun e w' => e = .returned (.tuple #[ros (goneR x b).1, .int .i64 (goneR x b).2]) ∧ Below w.heap.size w w' := by
  have p := fun w => May_any x hx w
  have hl := Lib.hid hx.1
  cases hm : mayR x with
  | false =>
    rw [hm] at p
    rw [goneR, if_neg (by rw [hm]; exact Bool.false_ne_true)]
    exact Gone_A x hl b (Lib.hid p) w
  | true =>
    rw [hm] at p
    rw [goneR, if_pos hm]
    exact Gone_B x hl b (Lib.hid p) w
theorem rGone_any (x : Ro) (hx : Wf x) (b : Bool) (w : World) : Calls Try.prog 101 #[ros x, .bool b] w fun e w' => e = .returned (.tuple #[ros (goneR x b).1, .int .i64 (goneR x b).2]) ∧ Below w.heap.size w w' := by
  have p := fun w => rMay_any x hx w
  have hl := Lib.hid hx.1
  cases hm : mayR x with
  | false =>
    rw [hm] at p
    rw [goneR, if_neg (by rw [hm]; exact Bool.false_ne_true)]
    exact rGone_A x hl b (Lib.hid p) w
  | true =>
    rw [hm] at p
    rw [goneR, if_pos hm]
    exact rGone_B x hl b (Lib.hid p) w
def newR (m s r : Int) : Ro × Int := if mayG m s r = true then ({ ro0 with m := m, s := s, r := r }, 0) else (ro0, 2)
theorem cnt_zero16 : cnt zero16 2 16 = 0 ∧ cnt zero16 0 16 = 16 := by decide
theorem rd_zero16 (i : Nat) : rd zero16 (i : Int) = 0 := by
  rw [rd, zero16, List.getD_eq_getElem?_getD, List.getElem?_replicate]
  split <;> rfl
theorem mayR_new (m s r : Int) : mayR { ro0 with m := m, s := s, r := r } = mayG m s r := by
  rw [Bool.eq_iff_iff, mayR_iff]
  unfold okR
  simp only [ro0]
  constructor
  · exact fun h => h.1
  · intro h
    have h1 := mayG_ok h
    exact ⟨h, Int.le_refl _, by omega, fun i _ => by rw [rd_zero16]; exact ⟨by decide, fun _ => rfl⟩, .inr ⟨cnt_zero16.1, trivial⟩⟩
theorem New_any (m s r : Int) (w : World) : Calls Try.prog 65 #[geo m s r] w fun e w' => e = .returned (.tuple #[ros (newR m s r).1, .int .i64 (newR m s r).2]) ∧ Below w.heap.size w w' := by
  have p := fun w => gMay_any m s r w
  cases hm : mayG m s r with
  | false =>
    rw [hm] at p
    rw [newR, if_neg (by rw [hm]; exact Bool.false_ne_true)]
    exact New_A m s r (Lib.hid p) w
  | true =>
    rw [hm] at p
    rw [newR, if_pos hm]
    exact New_B m s r (Lib.hid p) w
theorem rNew_any (m s r : Int) (w : World) : Calls Try.prog 88 #[geo m s r] w fun e w' => e = .returned (.tuple #[ros (newR m s r).1, .int .i64 (newR m s r).2]) ∧ Below w.heap.size w w' := by
  have p := fun w => Fine_any { ro0 with m := m, s := s, r := r } (Wf_rog m s r) w
  rw [mayR_new] at p
  cases hm : mayG m s r with
  | false =>
    rw [hm] at p
    rw [newR, if_neg (by rw [hm]; exact Bool.false_ne_true)]
    exact rNew_A m s r (Lib.hid p) w
  | true =>
    rw [hm] at p
    rw [newR, if_pos hm]
    exact rNew_B m s r (Lib.hid p) w
noncomputable def loseR (x : Ro) (i : Int) : Ro × Bool := if memR x i = true then (if rd x.st i = 2 then ({ x with cu := 0, st := x.st.set i.toNat 1 }, true) else ({ x with st := x.st.set i.toNat 1 }, rd x.st i != 1)) else (x, false)
theorem Lose_any (x : Ro) (hx : Wf x) (i : Int) (w : World) : Calls Try.prog 66 #[ros x, .int .i64 i] w fun e w' => e = .returned (.tuple #[ros (loseR x i).1, .bool (loseR x i).2]) ∧ Below w.heap.size w w' := by
  have p := fun w => member_any x hx i w
  have hl := Lib.hid hx.1
  cases hm : memR x i with
  | false =>
    rw [hm] at p
    rw [loseR, if_neg (by rw [hm]; exact Bool.false_ne_true)]
    exact Lose_A x hl i (Lib.hid p) w
  | true =>
    rw [hm] at p
    rw [loseR, if_pos hm]
    obtain ⟨k, rfl, hk, -, -⟩ := memR_nat hm
    rw [Int.toNat_natCast]
    by_cases h2 : rd x.st (k : Int) = 2
    · rw [if_pos h2]
      exact Lose_B x hl k hk h2 (Lib.hid p) w
    · rw [if_neg h2]
      exact Lose_C x hl k hk (by simpa using h2) _ rfl (Lib.hid p) w
theorem rLose_any (x : Ro) (hx : Wf x) (i : Int) (w : World) : Calls Try.prog 97 #[ros x, .int .i64 i] w fun e w' => e = .returned (.tuple #[ros (loseR x i).1, .bool (loseR x i).2]) ∧ Below w.heap.size w w' := by
  have y := fun w => rMay_any x hx w
  have p := fun w => rmember_any x hx.1 i w
  have hl := Lib.hid hx.1
  cases hy : mayR x with
  | false =>
    rw [hy] at y
    rw [loseR, if_neg (by rw [memR_no hy]; exact Bool.false_ne_true)]
    exact rLose_A x hl i (Lib.hid y) w
  | true =>
  rw [hy] at y
  rw [← memR_is hy] at p
  cases hm : memR x i with
  | false =>
    rw [hm] at p
    rw [loseR, if_neg (by rw [hm]; exact Bool.false_ne_true)]
    exact rLose_B x hl i (Lib.hid y) (Lib.hid p) w
  | true =>
    rw [hm] at p
    rw [loseR, if_pos hm]
    obtain ⟨k, rfl, hk, -, -⟩ := memR_nat hm
    rw [Int.toNat_natCast]
    by_cases h2 : rd x.st (k : Int) = 2
    · rw [if_pos h2]
      exact rLose_D x hl k hk (by rw [h2]; rfl) (by simpa using h2) (Lib.hid y) (Lib.hid p) w
    · rw [if_neg h2]
      by_cases h1 : rd x.st (k : Int) = 1
      · rw [set_rd (by rw [hx.1]; exact hk) h1, h1]
        exact rLose_C x hl k hk (by simpa using h1) (Lib.hid y) (Lib.hid p) w
      · rw [show (rd x.st (k : Int) != 1) = true by simpa using h1]
        exact rLose_E x hl k hk (by simpa using h1) (by simpa using h2) (Lib.hid y) (Lib.hid p) w
noncomputable def beginR (x : Ro) (i : Int) : Ro × Int := if memR x i = true then (if rd x.st i = 1 ∧ missR x ≤ 1 ∧ x.go = false then ({ x with st := x.st.set i.toNat 2, cu := 0 }, 0) else (ro0, 17)) else (ro0, 2)
theorem Begin_any (x : Ro) (hx : Wf x) (i : Int) (w : World) : Calls Try.prog 67 #[ros x, .int .i64 i] w fun e w' => e = .returned (.tuple #[ros (beginR x i).1, .int .i64 (beginR x i).2]) ∧ Below w.heap.size w w' := by
  have p := fun w => member_any x hx i w
  have q := fun w => Missing_any x hx w
  have hl := Lib.hid hx.1
  cases hm : memR x i with
  | false =>
    rw [hm] at p
    rw [beginR, if_neg (by rw [hm]; exact Bool.false_ne_true)]
    exact Begin_A x hl i (Lib.hid p) w
  | true =>
    rw [hm] at p
    rw [beginR, if_pos hm]
    obtain ⟨k, rfl, hk, -, -⟩ := memR_nat hm
    rw [Int.toNat_natCast]
    by_cases h1 : rd x.st (k : Int) = 1
    · have h1' : (rd x.st (k : Int) != 1) = false := by simpa using h1
      by_cases h2 : missR x ≤ 1
      · cases hg : x.go with
        | false =>
          rw [if_pos ⟨h1, h2, rfl⟩, ← hg]
          exact Begin_E x hl k hk h1' _ (by omega) hg (Lib.hid p) (Lib.hid q) w
        | true =>
          rw [if_neg (by rintro ⟨-, -, h⟩; exact absurd h (by decide))]
          exact Begin_D x hl k hk h1' _ (by omega) hg (Lib.hid p) (Lib.hid q) w
      · rw [if_neg (by rintro ⟨-, h, -⟩; exact h2 h)]
        exact Begin_C x hl k hk h1' _ (by omega) (Lib.hid p) (Lib.hid q) w
    · rw [if_neg (by rintro ⟨h, -, -⟩; exact h1 h)]
      exact Begin_B x hl k hk (by simpa using h1) (Lib.hid p) w
theorem rBegin_any (x : Ro) (hx : Wf x) (i : Int) (w : World) : Calls Try.prog 98 #[ros x, .int .i64 i] w fun e w' => e = .returned (.tuple #[ros (beginR x i).1, .int .i64 (beginR x i).2]) ∧ Below w.heap.size w w' := by
  have y := fun w => rMay_any x hx w
  have p := fun w => rmember_any x hx.1 i w
  have q := fun w => rMissing_any x hx w
  have hl := Lib.hid hx.1
  cases hy : mayR x with
  | false =>
    rw [hy] at y
    rw [beginR, if_neg (by rw [memR_no hy]; exact Bool.false_ne_true)]
    exact rBegin_A x hl i (Lib.hid y) w
  | true =>
  rw [hy] at y
  rw [← memR_is hy] at p
  cases hm : memR x i with
  | false =>
    rw [hm] at p
    rw [beginR, if_neg (by rw [hm]; exact Bool.false_ne_true)]
    exact rBegin_B x hl i (Lib.hid y) (Lib.hid p) w
  | true =>
    rw [hm] at p
    rw [beginR, if_pos hm]
    obtain ⟨k, rfl, hk, -, -⟩ := memR_nat hm
    rw [Int.toNat_natCast]
    by_cases h1 : rd x.st (k : Int) = 1
    · have h1' : (rd x.st (k : Int) != 1) = false := by simpa using h1
      by_cases h2 : missR x ≤ 1
      · cases hg : x.go with
        | false =>
          rw [if_pos ⟨h1, h2, rfl⟩, ← hg]
          exact rBegin_F x hl k hk h1' _ (by omega) hg (Lib.hid y) (Lib.hid p) (Lib.hid q) w
        | true =>
          rw [if_neg (by rintro ⟨-, -, h⟩; exact absurd h (by decide))]
          exact rBegin_E x hl k hk h1' _ (by omega) hg (Lib.hid y) (Lib.hid p) (Lib.hid q) w
      · rw [if_neg (by rintro ⟨-, h, -⟩; exact h2 h)]
        exact rBegin_D x hl k hk h1' _ (by omega) (Lib.hid y) (Lib.hid p) (Lib.hid q) w
    · rw [if_neg (by rintro ⟨h, -, -⟩; exact h1 h)]
      exact rBegin_C x hl k hk (by simpa using h1) (Lib.hid y) (Lib.hid p) w
end Go.Proofs.Ytdchcggllcgokaa.Q

namespace Go.Proofs.Ytdchcggllcgokaa.Q
open Go.RowKit Go.Proofs.Ytdchcggllcgokaa.L Go.Proofs.Ytdchcggllcgokaa.R Go.Proofs.YtdchcggllcgokaaW.PrintWords
set_option linter.unusedVariables false
set_option linter.unusedSimpArgs false
/-- none heals just if no state is 2 -/
theorem cnt_none (l : List Int) (v : Int) : ∀ q : Nat, cnt l v q = 0 ↔ ∀ j : Nat, j < q → rd l (j : Int) ≠ v
  | 0 => by simp [cnt_0]
  | q + 1 => by
    have ih := cnt_none l v q
    rw [cnt_succ]
    by_cases h : rd l (q : Int) = v
    · rw [if_pos h]
      exact ⟨fun h1 => by omega, fun h1 => absurd h (h1 q (by omega))⟩
    · rw [if_neg h, Nat.add_zero, ih]
      constructor
      · intro h1 j hj
        rcases Nat.lt_or_ge j q with h2 | h2
        · exact h1 j h2
        · obtain rfl : j = q := by omega
          exact h
      · exact fun h1 j hj => h1 j (by omega)
theorem cnt_eq (l l' : List Int) (v : Int) : ∀ q : Nat, (∀ j : Nat, j < q → (rd l (j : Int) = v ↔ rd l' (j : Int) = v)) → cnt l v q = cnt l' v q
  | 0, _ => by simp [cnt_0]
  | q + 1, h => by
    rw [cnt_succ, cnt_succ, cnt_eq l l' v q fun j hj => h j (by omega)]
    have h1 := h q (by omega)
    by_cases h2 : rd l (q : Int) = v
    · rw [if_pos h2, if_pos (h1.1 h2)]
    · rw [if_neg h2, if_neg fun h3 => h2 (h1.2 h3)]
noncomputable def stateR (x : Ro) : Int := if mayR x = true then (if 1 < missR x then 5 else if missR x = 1 then (if x.go = true then 5 else if cnt x.st 2 16 = 0 then 2 else 3) else (if x.go = true then 4 else if cnt x.st 2 16 = 0 then 1 else 3)) else 0
theorem State_any (x : Ro) (hx : Wf x) (w : World) : Calls Try.prog 94 #[ros x] w fun e w' => e = .returned (.int .i64 (stateR x)) ∧ Below w.heap.size w w' := by
  have y := fun w => May_any x hx w
  have q := fun w => Missing_any x hx w
  obtain ⟨k, b, h, h_, hq⟩ := Heals_same x hx
  clear h_
  have hl := Lib.hid hx.1
  have hn := cnt_none x.st 2 16
  unfold stateR
  cases hy : mayR x with
  | false =>
    rw [hy] at y
    rw [if_neg Bool.false_ne_true]
    exact State_A x hl k _ b (Lib.hid h) (Lib.hid q) (Lib.hid y) w
  | true =>
    rw [hy] at y
    rw [if_pos rfl]
    have hb : (b = false ∧ cnt x.st 2 16 = 0) ∨ (b = true ∧ cnt x.st 2 16 ≠ 0) := by
      rcases hq with ⟨h1, -, -⟩ | ⟨-, -, h1, h2⟩ | ⟨-, h1, z, -, h3, h4, -⟩
      · rw [hy] at h1; exact absurd h1 (by decide)
      · exact .inl ⟨h1, hn.2 h2⟩
      · exact .inr ⟨h1, fun h5 => hn.1 h5 z h3 h4⟩
    clear hq
    by_cases h1 : 1 < missR x
    · rw [if_pos h1]
      exact State_B x hl k _ b (by omega) (Lib.hid h) (Lib.hid q) (Lib.hid y) w
    rw [if_neg h1]
    by_cases h2 : missR x = 1
    · rw [if_pos h2]
      cases hg : x.go with
      | true =>
        rw [if_pos rfl]
        exact State_C x hl k _ b (by omega) hg (Lib.hid h) (Lib.hid q) (Lib.hid y) w
      | false =>
        rw [if_neg Bool.false_ne_true]
        rcases hb with ⟨rfl, h3⟩ | ⟨rfl, h3⟩
        · rw [if_pos h3]; exact State_E x hl k _ (by omega) hg (Lib.hid h) (Lib.hid q) (Lib.hid y) w
        · rw [if_neg h3]; exact State_D x hl k _ (by omega) hg (Lib.hid h) (Lib.hid q) (Lib.hid y) w
    · rw [if_neg h2]
      cases hg : x.go with
      | true =>
        rw [if_pos rfl]
        exact State_F x hl k _ b (by omega) hg (Lib.hid h) (Lib.hid q) (Lib.hid y) w
      | false =>
        rw [if_neg Bool.false_ne_true]
        rcases hb with ⟨rfl, h3⟩ | ⟨rfl, h3⟩
        · rw [if_pos h3]; exact State_H_ x hl k _ (by omega) hg (Lib.hid h) (Lib.hid q) (Lib.hid y) w
        · rw [if_neg h3]; exact State_G x hl k _ (by omega) hg (Lib.hid h) (Lib.hid q) (Lib.hid y) w
theorem rState_any (x : Ro) (hx : Wf x) (w : World) : Calls Try.prog 95 #[ros x] w fun e w' => e = .returned (.int .i64 (stateR x)) ∧ Below w.heap.size w w' := by
  have y := fun w => rMay_any x hx w
  have q := fun w => rMissing_any x hx w
  obtain ⟨k, b, h, h_, hq⟩ := Heals_same x hx
  clear h; have h := h_; clear h_
  have hl := Lib.hid hx.1
  have hn := cnt_none x.st 2 16
  unfold stateR
  cases hy : mayR x with
  | false =>
    rw [hy] at y
    rw [if_neg Bool.false_ne_true]
    exact rState_A x hl (Lib.hid y) w
  | true =>
    rw [hy] at y
    rw [if_pos rfl]
    have hb : (b = false ∧ cnt x.st 2 16 = 0) ∨ (b = true ∧ cnt x.st 2 16 ≠ 0) := by
      rcases hq with ⟨h1, -, -⟩ | ⟨-, -, h1, h2⟩ | ⟨-, h1, z, -, h3, h4, -⟩
      · rw [hy] at h1; exact absurd h1 (by decide)
      · exact .inl ⟨h1, hn.2 h2⟩
      · exact .inr ⟨h1, fun h5 => hn.1 h5 z h3 h4⟩
    clear hq
    by_cases h1 : 1 < missR x
    · rw [if_pos h1]
      exact rState_B x hl k _ b (by omega) (Lib.hid y) (Lib.hid q) (Lib.hid h) w
    rw [if_neg h1]
    by_cases h2 : missR x = 1
    · rw [if_pos h2]
      cases hg : x.go with
      | true =>
        rw [if_pos rfl]
        exact rState_C x hl k _ b (by omega) hg (Lib.hid y) (Lib.hid q) (Lib.hid h) w
      | false =>
        rw [if_neg Bool.false_ne_true]
        rcases hb with ⟨rfl, h3⟩ | ⟨rfl, h3⟩
        · rw [if_pos h3]; exact rState_E x hl k _ (by omega) hg (Lib.hid y) (Lib.hid q) (Lib.hid h) w
        · rw [if_neg h3]; exact rState_D x hl k _ (by omega) hg (Lib.hid y) (Lib.hid q) (Lib.hid h) w
    · rw [if_neg h2]
      cases hg : x.go with
      | true =>
        rw [if_pos rfl]
        exact rState_F x hl k _ b (by omega) hg (Lib.hid y) (Lib.hid q) (Lib.hid h) w
      | false =>
        rw [if_neg Bool.false_ne_true]
        rcases hb with ⟨rfl, h3⟩ | ⟨rfl, h3⟩
        · rw [if_pos h3]; exact rState_H_ x hl k _ (by omega) hg (Lib.hid y) (Lib.hid q) (Lib.hid h) w
        · rw [if_neg h3]; exact rState_G x hl k _ (by omega) hg (Lib.hid y) (Lib.hid q) (Lib.hid h) w
/-- what Next makes -/
def NextP (x y : Ro) (e : Int) : Prop := (mayR x = false ∧ y = ro0 ∧ e = 2) ∨ (mayR x = true ∧ cnt x.st 2 16 = 0 ∧ y = ro0 ∧ e = 17) ∨ (mayR x = true ∧ e = 0 ∧ ∃ k : Nat, k < 16 ∧ rd x.st (k : Int) = 2 ∧ ((x.cu + 1 = x.s ∧ y = { x with st := x.st.set k 0, cu := 0 }) ∨ (x.cu + 1 ≠ x.s ∧ y = { x with cu := x.cu + 1 })))
theorem Next_same (x : Ro) (hx : Wf x) : ∃ (y : Ro) (e : Int), Wf y ∧ (∀ w : World, Calls Try.prog 69 #[ros x] w fun z w' => z = .returned (.tuple #[ros y, .int .i64 e]) ∧ Below w.heap.size w w') ∧ (∀ w : World, Calls Try.prog 99 #[ros x] w fun z w' => z = .returned (.tuple #[ros y, .int .i64 e]) ∧ Below w.heap.size w w') ∧ NextP x y e := by
  have p := fun w => May_any x hx w
  have r := fun w => rMay_any x hx w
  obtain ⟨k, b, h, h_, hq⟩ := Heals_same x hx
  have hl := Lib.hid hx.1
  have hn := cnt_none x.st 2 16
  rcases hq with ⟨h1, rfl, rfl⟩ | ⟨h1, rfl, rfl, h2⟩ | ⟨h1, rfl, z, rfl, h3, h4, h5⟩
  · rw [h1] at p r
    exact ⟨ro0, 2, Wf_ro0, fun w => Next_A x hl 0 false (Lib.hid p) (Lib.hid h) w, fun w => rNext_A x hl (Lib.hid r) w, .inl ⟨h1, rfl, rfl⟩⟩
  · rw [h1] at p r
    exact ⟨ro0, 17, Wf_ro0, fun w => Next_B x hl 0 (Lib.hid p) (Lib.hid h) w, fun w => rNext_B x hl 0 (Lib.hid r) (Lib.hid h_) w, .inr (.inl ⟨h1, hn.2 h2, rfl, rfl⟩)⟩
  · rw [h1] at p r
    have hmm := may_m h1
    by_cases he : x.cu + 1 = x.s
    · have g : (x.cu + 1 == x.s) = true := by simpa using he
      exact ⟨_, 0, hx.set z (v := 0) rfl 0 x.go, fun w => Next_C x hl z h3 (by omega) (by omega) g (Lib.hid p) (Lib.hid h) w, fun w => rNext_C x hl z h3 (by omega) (by omega) g (Lib.hid r) (Lib.hid h_) w, .inr (.inr ⟨h1, rfl, z, h3, h4, .inl ⟨he, rfl⟩⟩)⟩
    · have g : (x.cu + 1 == x.s) = false := by simpa using he
      exact ⟨{ x with cu := x.cu + 1 }, 0, ⟨hx.1, hx.2⟩, fun w => Next_D x hl z h3 (by omega) (by omega) g (Lib.hid p) (Lib.hid h) w, fun w => rNext_D x hl z h3 (by omega) (by omega) g (Lib.hid r) (Lib.hid h_) w, .inr (.inr ⟨h1, rfl, z, h3, h4, .inr ⟨he, rfl⟩⟩)⟩
end Go.Proofs.Ytdchcggllcgokaa.Q

namespace Go.Proofs.Ytdchcggllcgokaa.Q
open Go.RowKit Go.Proofs.Ytdchcggllcgokaa.L Go.Proofs.Ytdchcggllcgokaa.R Go.Proofs.YtdchcggllcgokaaW.PrintWords
set_option linter.unusedVariables false
set_option linter.unusedSimpArgs false
section
variable {ops : Array Oper} {rest : List Oper} {op : Oper} {A : Act} {w : World} {Q : Exit → Act → World → Prop}
theorem valStep {v : Value} (hr : (execOp A.eval op).run Try.prog w = .ok (.value v) w) (hw : Region.wanted op (yielded ops A.tmps) = true) (h : wpList Try.prog ops Q rest (A.put op.dst v) w) : wpList Try.prog ops Q (op :: rest) A w := by
  refine wanted_step hw fun K hK => ?_
  unfold Oper.wp
  rw [hr]
  exact hK _ _ h
theorem rosEqlS (x y : Operand) (t : TypeId) (ho : op.op = .binOp .eql 72 x y t) {u v : Ro} (hx : A.eval x = ros u) (hy : A.eval y = ros v) (hu : u.st.length = 16) (hv : v.st.length = 16) (b : Bool) (hb : eqR u v = b)
    (hw : Region.wanted op (yielded ops A.tmps) = true) (h : wpList Try.prog ops Q rest (A.put op.dst (.bool b)) w) : wpList Try.prog ops Q (op :: rest) A w :=
  valStep (run_rosEql x y t ho hx hy hu hv b hb w) hw h
theorem rosNeqS (x y : Operand) (t : TypeId) (ho : op.op = .binOp .neq 72 x y t) {u v : Ro} (hx : A.eval x = ros u) (hy : A.eval y = ros v) (hu : u.st.length = 16) (hv : v.st.length = 16) (b : Bool) (hb : (!eqR u v) = b)
    (hw : Region.wanted op (yielded ops A.tmps) = true) (h : wpList Try.prog ops Q rest (A.put op.dst (.bool b)) w) : wpList Try.prog ops Q (op :: rest) A w :=
  valStep (run_rosNeq x y t ho hx hy hu hv b hb w) hw h
end
theorem eqR_self (x : Ro) : eqR x x = true := (eqR_iff x x).2 rfl
theorem neR_self (x : Ro) : (!eqR x x) = false := by rw [eqR_self]; rfl
end Go.Proofs.Ytdchcggllcgokaa.Q

namespace Go.Proofs.Ytdchcggllcgokaa.Q
open Go.RowKit Go.Proofs.Ytdchcggllcgokaa.L Go.Proofs.Ytdchcggllcgokaa.R Go.Proofs.YtdchcggllcgokaaW.PrintWords
set_option linter.unusedVariables false
set_option linter.unusedSimpArgs false
theorem cnt_set {l : List Int} (hl : l.length = 16) {i : Nat} (hi : i < 16) (v u : Int) : ∀ q : Nat, cnt (l.set i v) u q + (if i < q ∧ rd l (i : Int) = u then 1 else 0) = cnt l u q + (if i < q ∧ v = u then 1 else 0)
  | 0 => by simp [cnt_0]
  | q + 1 => by
    have ih := cnt_set hl hi v u q
    rw [cnt_succ, cnt_succ, rd_set (by omega)]
    rcases Nat.lt_trichotomy i q with h | h | h
    · have e1 : i < q + 1 := by omega
      simp only [h, e1, true_and] at ih ⊢
      rw [if_neg (show ¬ q = i by omega)]
      omega
    · subst h
      have e0 : ¬ i < i := by omega
      have e1 : i < i + 1 := by omega
      simp only [e0, e1, true_and, false_and, if_false, if_true, Nat.add_zero] at ih ⊢
      omega
    · have e0 : ¬ i < q := by omega
      have e1 : ¬ i < q + 1 := by omega
      simp only [e0, e1, false_and, if_false, Nat.add_zero] at ih ⊢
      rw [if_neg (show ¬ q = i by omega)]
      omega
theorem cnt_set16 {l : List Int} (hl : l.length = 16) {i : Nat} (hi : i < 16) (v u : Int) : cnt (l.set i v) u 16 + (if rd l (i : Int) = u then 1 else 0) = cnt l u 16 + (if v = u then 1 else 0) := by
  have h := cnt_set hl hi v u 16
  simp only [hi, true_and] at h
  exact h
theorem may_sum {x : Ro} (hx : Wf x) (h : mayR x = true) : cnt x.st 0 16 + cnt x.st 1 16 + cnt x.st 2 16 = 16 :=
  (cnt_all hx 16).2.2 fun i hi => (((mayR_iff x).1 h).2.2.2.1 i hi).1
theorem missR_is {x : Ro} (h : mayR x = true) : missR x = 16 - cnt x.st 0 16 := by rw [missR, if_pos h]
/-- setting a state below the members keeps what may be -/
theorem may_set {x : Ro} (hx : Wf x) (h : mayR x = true) {k : Nat} (hk : k < 16) (hm : (k : Int) < x.m) {v : Int} (hv : v ≤ 2) (cu : Int) (go : Bool) (h0 : 0 ≤ cu) (h1 : cu < x.s)
    (hc : cnt (x.st.set k v) 2 16 = 1 ∨ (cnt (x.st.set k v) 2 16 = 0 ∧ cu = 0)) : mayR { x with st := x.st.set k v, cu := cu, go := go } = true := by
  rw [mayR_iff] at h ⊢
  obtain ⟨a, -, -, b, -⟩ := h
  refine ⟨a, h0, h1, fun i hi => ?_, hc⟩
  show rd (x.st.set k v) (i : Int) ≤ 2 ∧ (x.m ≤ (i : Int) → rd (x.st.set k v) (i : Int) = 0)
  rw [rd_set (by rw [hx.1]; exact hk)]
  by_cases e : i = k
  · rw [if_pos e]; exact ⟨hv, fun h2 => by omega⟩
  · rw [if_neg e]; exact b i hi
theorem may_keep {x : Ro} (h : mayR x = true) (cu : Int) (go : Bool) (h0 : 0 ≤ cu) (h1 : cu < x.s) (hc : cnt x.st 2 16 = 1 ∨ (cnt x.st 2 16 = 0 ∧ cu = 0)) : mayR { x with cu := cu, go := go } = true := by
  rw [mayR_iff] at h ⊢
  exact ⟨h.1, h0, h1, h.2.2.2.1, hc⟩
theorem ret_ros1 {fn : Func} {p : Tmp} (h : fn.results = #[.cell p 72]) (tmps : Array Value) (w : World) {g : Nat} {x : Ro} (hk : Ros w g x) (hp : tmps.getD p undef = .pointer (some ⟨g, 0, none⟩)) :
    (results fn tmps).run Try.prog w = .ok (ros x) w :=
  results_cell_row h tmps w g _ _ (0, 0) _ hp hk.2 Try.underlying72 rfl (info_of_ros hk.1)
theorem stateR_of {x : Ro} (h : mayR x = true) {n : Nat} (hm : missR x = n) {d : Nat} (hc : cnt x.st 2 16 = d) : stateR x = if 1 < n then 5 else if n = 1 then (if x.go = true then 5 else if d = 0 then 2 else 3) else (if x.go = true then 4 else if d = 0 then 1 else 3) := by
  unfold stateR
  rw [if_pos h, hm, hc]
set_option maxRecDepth 100000 in
set_option maxHeartbeats 2000000 in
theorem two_walk (x : Ro) (HL : Hid (x.st.length = 16)) (P : Hid (∀ w : World, Calls Try.prog 65 #[geo 3 2 40] w fun e w' => e = .returned (.tuple #[ros x, .int .i64 0]) ∧ Below w.heap.size w w')) (w : World) : Calls Try.prog 128 #[] w fun e w' => e = .returned (ros x) ∧ Below w.heap.size w w' := by
  have HB := Lib.hid (Below.refl w.heap.size w)
  have tok0 : True := trivial
  have tp0 : True := trivial
  go_enter Try.func128, Try.ntmps128
  go_wp2_with (first
    | (go_skip)
    | (have _t := tok0; refine rosAlloc rfl rfl ?_; intro w1 hk hb1 hz1; replace HB := Lib.hid (below_ext HB.out hb1); have K0 := Lib.hid hk; clear hk hb1; have tok1 : True := trivial; clear _t tok0)
    | (have _t := tp0; go_at_call 65; refine (P.out _).mono ?_; rintro e w2 ⟨rfl, hb2⟩; replace K0 := Lib.hid (K0.out.below hb2); replace HB := Lib.hid (below_ext HB.out hb2); have hz2 := hb2.size; clear hb2; have tp1 : True := trivial; clear _t tp0)
    | (have _t := tok1; refine rosAlloc rfl rfl ?_; intro w3 hk hb3 hz3; replace K0 := Lib.hid (K0.out.below hb3); replace HB := Lib.hid (below_ext HB.out hb3); have K1 := Lib.hid hk; clear hk hb3; have tok2 : True := trivial; clear _t tok1)
    | (refine rosStore (.tmp 1) (.tmp 6) rfl K1.out rfl rfl HL.out rfl ?_; intro w4 hk hg; replace HB := Lib.hid (below_at HB.out hg (by omega) K1.out.lt); replace K0 := Lib.hid (K0.out.grown hg (by omega)); replace K1 := Lib.hid hk; have hz4 := hg.size; clear hk hg)
    | (refine rosLoad (.tmp 1) rfl K1.out rfl rfl ?_)
    | (refine rosStore (.tmp 0) (.tmp 11) rfl K0.out rfl rfl HL.out rfl ?_; intro w5 hk hg; replace HB := Lib.hid (below_at HB.out hg (by omega) K0.out.lt); replace K1 := Lib.hid (K1.out.grown hg (by omega)); replace K0 := Lib.hid hk; have hz5 := hg.size; clear hk hg))
  exact bodyPost_ret (v := ros x) (ret_ros1 rfl _ _ K0.out rfl) rfl ⟨rfl, HB.out⟩
def r0 : Ro := ⟨3, 2, 40, zero16, 0, false⟩
theorem two_any (w : World) : Calls Try.prog 128 #[] w fun e w' => e = .returned (ros r0) ∧ Below w.heap.size w w' :=
  two_walk r0 (Lib.hid rfl) (Lib.hid fun w => New_any 3 2 40 w) w
theorem geo_any (m s : Int) (hm : (Lit.int .u8 m).wf = true) (hs : (Lit.int .u8 s).wf = true) (w : World) : Calls Try.prog 64 #[.int .u8 m, .int .u8 s] w fun e w' => e = .returned (geo (3 + m % 14) (1 + s % 64) 40) ∧ Below w.heap.size w w' := by
  have HB := Lib.hid (Below.refl w.heap.size w)
  obtain ⟨hm0, hm1⟩ := bounds_u8 hm
  obtain ⟨hs0, hs1⟩ := bounds_u8 hs
  have e1 : m.tmod 14 = m % 14 := Int.tmod_eq_emod_of_nonneg hm0
  have e2 : s.tmod 64 = s % 64 := Int.tmod_eq_emod_of_nonneg hs0
  have tok0 : True := trivial
  have tp0 : True := trivial
  go_enter Try.func64, Try.ntmps64
  go_wp2_with (first
    | (go_skip)
    | (have _t := tok0; refine F.rowAlloc 68 rfl _ zero_geo rfl ?_; intro w1 hk hb1 hz1; replace HB := Lib.hid (below_ext HB.out hb1); have K4 := Lib.hid hk; have tok1 : True := trivial; clear hk hb1 _t tok0)
    | (refine F.rowStore (cs := #[.int .i64 (_), .int .i64 (_), .int .i64 (_)]) 68 (.tmp 4) (.tmp 13) rfl K4.out rfl rfl info_geo rfl (ones_geo _ _ _) rfl ?_; intro w2 hk hg; replace HB := Lib.hid (below_at HB.out hg (by omega) K4.out.lt); replace K4 := Lib.hid hk; have hz2 := hg.size; clear hk hg))
  exact bodyPost_ret (v := geo (3 + m % 14) (1 + s % 64) 40) (results_cell_row rfl _ _ _ _ _ (0, 0) _ rfl K4.out Try.underlying68 rfl info_geo) rfl ⟨rfl, HB.out⟩
end Go.Proofs.Ytdchcggllcgokaa.Q

namespace Go.Proofs.Ytdchcggllcgokaa.Q
open Go.RowKit Go.Proofs.Ytdchcggllcgokaa.L Go.Proofs.Ytdchcggllcgokaa.R Go.Proofs.YtdchcggllcgokaaW.PrintWords
set_option linter.unusedVariables false
set_option linter.unusedSimpArgs false
set_option maxRecDepth 100000 in
set_option maxHeartbeats 4000000 in
theorem lives_walk (r0 r1 r2 r3 r4 : Ro) (HL0 : Hid (r0.st.length = 16)) (HL1 : Hid (r1.st.length = 16)) (HL2 : Hid (r2.st.length = 16)) (HL3 : Hid (r3.st.length = 16)) (HL4 : Hid (r4.st.length = 16))
    (P0 : Hid (∀ w : World, Calls Try.prog 128 #[] w fun e w' => e = .returned (ros r0) ∧ Below w.heap.size w w'))
    (P1 : Hid (∀ w : World, Calls Try.prog 66 #[ros r0, .int .i64 1] w fun e w' => e = .returned (.tuple #[ros r1, .bool true]) ∧ Below w.heap.size w w'))
    (P2 : Hid (∀ w : World, Calls Try.prog 67 #[ros r1, .int .i64 1] w fun e w' => e = .returned (.tuple #[ros r2, .int .i64 0]) ∧ Below w.heap.size w w'))
    (P3 : Hid (∀ w : World, Calls Try.prog 69 #[ros r2] w fun e w' => e = .returned (.tuple #[ros r3, .int .i64 0]) ∧ Below w.heap.size w w'))
    (P4 : Hid (∀ w : World, Calls Try.prog 69 #[ros r3] w fun e w' => e = .returned (.tuple #[ros r4, .int .i64 0]) ∧ Below w.heap.size w w'))
    (P5 : Hid (∀ w : World, Calls Try.prog 69 #[ros r4] w fun e w' => e = .returned (.tuple #[ros ro0, .int .i64 17]) ∧ Below w.heap.size w w'))
    (S0 : Hid (∀ w : World, Calls Try.prog 94 #[ros r0] w fun e w' => e = .returned (.int .i64 1) ∧ Below w.heap.size w w'))
    (S1 : Hid (∀ w : World, Calls Try.prog 94 #[ros r1] w fun e w' => e = .returned (.int .i64 2) ∧ Below w.heap.size w w'))
    (H1 : Hid (∀ w : World, Calls Try.prog 70 #[ros r1, .int .i64 1, .int .i64 0] w fun e w' => e = .returned (.bool false) ∧ Below w.heap.size w w'))
    (S2 : Hid (∀ w : World, Calls Try.prog 94 #[ros r2] w fun e w' => e = .returned (.int .i64 3) ∧ Below w.heap.size w w'))
    (H2 : Hid (∀ w : World, Calls Try.prog 70 #[ros r3, .int .i64 1, .int .i64 0] w fun e w' => e = .returned (.bool true) ∧ Below w.heap.size w w'))
    (H3 : Hid (∀ w : World, Calls Try.prog 70 #[ros r3, .int .i64 1, .int .i64 1] w fun e w' => e = .returned (.bool false) ∧ Below w.heap.size w w'))
    (S4 : Hid (∀ w : World, Calls Try.prog 94 #[ros r4] w fun e w' => e = .returned (.int .i64 1) ∧ Below w.heap.size w w')) (w : World) : Calls Try.prog 71 #[] w fun e w' => e = .returned (.bool true) ∧ Below w.heap.size w w' := by
  have HB := Lib.hid (Below.refl w.heap.size w)
  have tok0 : True := trivial
  have tp0 : True := trivial
  go_enter Try.func71, Try.ntmps71
  go_wp2_with (first
    | (go_skip)
    | (have _t := tp0; go_at_call 128; refine (P0.out _).mono ?_; rintro e w1 ⟨rfl, hb1⟩; replace HB := Lib.hid (below_ext HB.out hb1); have hz1 := hb1.size; clear hb1; have tp1 : True := trivial; clear _t tp0)
    | (have _t := tp1; go_at_call 66; refine (P1.out _).mono ?_; rintro e w2 ⟨rfl, hb2⟩; replace HB := Lib.hid (below_ext HB.out hb2); have hz2 := hb2.size; clear hb2; have tp2 : True := trivial; clear _t tp1)
    | (have _t := tok0; refine rosAlloc rfl rfl ?_; intro w3 hk hb3 hz3; replace HB := Lib.hid (below_ext HB.out hb3); have K1 := Lib.hid hk; clear hk hb3; have tok1 : True := trivial; clear _t tok0)
    | (refine rosStore (.tmp 1) (.tmp 14) rfl K1.out rfl rfl HL1.out rfl ?_; intro w4 hk hg; replace HB := Lib.hid (below_at HB.out hg (by omega) K1.out.lt); replace K1 := Lib.hid hk; have hz4 := hg.size; clear hk hg)
    | (refine rosLoad (.tmp 1) rfl K1.out rfl rfl ?_)
    | (have _t := tp2; go_at_call 67; refine (P2.out _).mono ?_; rintro e w5 ⟨rfl, hb5⟩; replace K1 := Lib.hid (K1.out.below hb5); replace HB := Lib.hid (below_ext HB.out hb5); have hz5 := hb5.size; clear hb5; have tp3 : True := trivial; clear _t tp2)
    | (have _t := tok1; refine rosAlloc rfl rfl ?_; intro w6 hk hb6 hz6; replace K1 := Lib.hid (K1.out.below hb6); replace HB := Lib.hid (below_ext HB.out hb6); have K3 := Lib.hid hk; clear hk hb6; have tok2 : True := trivial; clear _t tok1)
    | (refine rosStore (.tmp 3) (.tmp 19) rfl K3.out rfl rfl HL2.out rfl ?_; intro w7 hk hg; replace HB := Lib.hid (below_at HB.out hg (by omega) K3.out.lt); replace K1 := Lib.hid (K1.out.grown hg (by omega)); replace K3 := Lib.hid hk; have hz7 := hg.size; clear hk hg)
    | (refine rosLoad (.tmp 3) rfl K3.out rfl rfl ?_)
    | (have _t := tp3; go_at_call 69; refine (P3.out _).mono ?_; rintro e w8 ⟨rfl, hb8⟩; replace K1 := Lib.hid (K1.out.below hb8); replace K3 := Lib.hid (K3.out.below hb8); replace HB := Lib.hid (below_ext HB.out hb8); have hz8 := hb8.size; clear hb8; have tp4 : True := trivial; clear _t tp3)
    | (have _t := tok2; refine rosAlloc rfl rfl ?_; intro w9 hk hb9 hz9; replace K1 := Lib.hid (K1.out.below hb9); replace K3 := Lib.hid (K3.out.below hb9); replace HB := Lib.hid (below_ext HB.out hb9); have K5 := Lib.hid hk; clear hk hb9; have tok3 : True := trivial; clear _t tok2)
    | (refine rosStore (.tmp 5) (.tmp 24) rfl K5.out rfl rfl HL3.out rfl ?_; intro w10 hk hg; replace HB := Lib.hid (below_at HB.out hg (by omega) K5.out.lt); replace K1 := Lib.hid (K1.out.grown hg (by omega)); replace K3 := Lib.hid (K3.out.grown hg (by omega)); replace K5 := Lib.hid hk; have hz10 := hg.size; clear hk hg)
    | (refine rosLoad (.tmp 5) rfl K5.out rfl rfl ?_)
    | (have _t := tp4; go_at_call 69; refine (P4.out _).mono ?_; rintro e w11 ⟨rfl, hb11⟩; replace K1 := Lib.hid (K1.out.below hb11); replace K3 := Lib.hid (K3.out.below hb11); replace K5 := Lib.hid (K5.out.below hb11); replace HB := Lib.hid (below_ext HB.out hb11); have hz11 := hb11.size; clear hb11; have tp5 : True := trivial; clear _t tp4)
    | (have _t := tok3; refine rosAlloc rfl rfl ?_; intro w12 hk hb12 hz12; replace K1 := Lib.hid (K1.out.below hb12); replace K3 := Lib.hid (K3.out.below hb12); replace K5 := Lib.hid (K5.out.below hb12); replace HB := Lib.hid (below_ext HB.out hb12); have K7 := Lib.hid hk; clear hk hb12; have tok4 : True := trivial; clear _t tok3)
    | (refine rosStore (.tmp 7) (.tmp 29) rfl K7.out rfl rfl HL4.out rfl ?_; intro w13 hk hg; replace HB := Lib.hid (below_at HB.out hg (by omega) K7.out.lt); replace K1 := Lib.hid (K1.out.grown hg (by omega)); replace K3 := Lib.hid (K3.out.grown hg (by omega)); replace K5 := Lib.hid (K5.out.grown hg (by omega)); replace K7 := Lib.hid hk; have hz13 := hg.size; clear hk hg)
    | (refine rosLoad (.tmp 7) rfl K7.out rfl rfl ?_)
    | (have _t := tp5; go_at_call 69; refine (P5.out _).mono ?_; rintro e w14 ⟨rfl, hb14⟩; replace K1 := Lib.hid (K1.out.below hb14); replace K3 := Lib.hid (K3.out.below hb14); replace K5 := Lib.hid (K5.out.below hb14); replace K7 := Lib.hid (K7.out.below hb14); replace HB := Lib.hid (below_ext HB.out hb14); have hz14 := hb14.size; clear hb14; have tp6 : True := trivial; clear _t tp5)
    | (have _t := tok4; refine rosAlloc rfl rfl ?_; intro w15 hk hb15 hz15; replace K1 := Lib.hid (K1.out.below hb15); replace K3 := Lib.hid (K3.out.below hb15); replace K5 := Lib.hid (K5.out.below hb15); replace K7 := Lib.hid (K7.out.below hb15); replace HB := Lib.hid (below_ext HB.out hb15); have K9 := Lib.hid hk; clear hk hb15; have tok5 : True := trivial; clear _t tok4)
    | (refine rosStore (.tmp 9) (.tmp 34) rfl K9.out rfl rfl zero16_length rfl ?_; intro w16 hk hg; replace HB := Lib.hid (below_at HB.out hg (by omega) K9.out.lt); replace K1 := Lib.hid (K1.out.grown hg (by omega)); replace K3 := Lib.hid (K3.out.grown hg (by omega)); replace K5 := Lib.hid (K5.out.grown hg (by omega)); replace K7 := Lib.hid (K7.out.grown hg (by omega)); replace K9 := Lib.hid hk; have hz16 := hg.size; clear hk hg)
    | (have _t := tp6; go_at_call 128; refine (P0.out _).mono ?_; rintro e w17 ⟨rfl, hb17⟩; replace K1 := Lib.hid (K1.out.below hb17); replace K3 := Lib.hid (K3.out.below hb17); replace K5 := Lib.hid (K5.out.below hb17); replace K7 := Lib.hid (K7.out.below hb17); replace K9 := Lib.hid (K9.out.below hb17); replace HB := Lib.hid (below_ext HB.out hb17); have hz17 := hb17.size; clear hb17; have tp7 : True := trivial; clear _t tp6)
    | (have _t := tp7; go_at_call 94; refine (S0.out _).mono ?_; rintro e w18 ⟨rfl, hb18⟩; replace K1 := Lib.hid (K1.out.below hb18); replace K3 := Lib.hid (K3.out.below hb18); replace K5 := Lib.hid (K5.out.below hb18); replace K7 := Lib.hid (K7.out.below hb18); replace K9 := Lib.hid (K9.out.below hb18); replace HB := Lib.hid (below_ext HB.out hb18); have hz18 := hb18.size; clear hb18; have tp8 : True := trivial; clear _t tp7)
    | (have _t := tp8; go_at_call 94; refine (S1.out _).mono ?_; rintro e w19 ⟨rfl, hb19⟩; replace K1 := Lib.hid (K1.out.below hb19); replace K3 := Lib.hid (K3.out.below hb19); replace K5 := Lib.hid (K5.out.below hb19); replace K7 := Lib.hid (K7.out.below hb19); replace K9 := Lib.hid (K9.out.below hb19); replace HB := Lib.hid (below_ext HB.out hb19); have hz19 := hb19.size; clear hb19; have tp9 : True := trivial; clear _t tp8)
    | (have _t := tp9; go_at_call 70; refine (H1.out _).mono ?_; rintro e w20 ⟨rfl, hb20⟩; replace K1 := Lib.hid (K1.out.below hb20); replace K3 := Lib.hid (K3.out.below hb20); replace K5 := Lib.hid (K5.out.below hb20); replace K7 := Lib.hid (K7.out.below hb20); replace K9 := Lib.hid (K9.out.below hb20); replace HB := Lib.hid (below_ext HB.out hb20); have hz20 := hb20.size; clear hb20; have tp10 : True := trivial; clear _t tp9)
    | (have _t := tp10; go_at_call 94; refine (S2.out _).mono ?_; rintro e w21 ⟨rfl, hb21⟩; replace K1 := Lib.hid (K1.out.below hb21); replace K3 := Lib.hid (K3.out.below hb21); replace K5 := Lib.hid (K5.out.below hb21); replace K7 := Lib.hid (K7.out.below hb21); replace K9 := Lib.hid (K9.out.below hb21); replace HB := Lib.hid (below_ext HB.out hb21); have hz21 := hb21.size; clear hb21; have tp11 : True := trivial; clear _t tp10)
    | (have _t := tp11; go_at_call 70; refine (H2.out _).mono ?_; rintro e w22 ⟨rfl, hb22⟩; replace K1 := Lib.hid (K1.out.below hb22); replace K3 := Lib.hid (K3.out.below hb22); replace K5 := Lib.hid (K5.out.below hb22); replace K7 := Lib.hid (K7.out.below hb22); replace K9 := Lib.hid (K9.out.below hb22); replace HB := Lib.hid (below_ext HB.out hb22); have hz22 := hb22.size; clear hb22; have tp12 : True := trivial; clear _t tp11)
    | (have _t := tp12; go_at_call 70; refine (H3.out _).mono ?_; rintro e w23 ⟨rfl, hb23⟩; replace K1 := Lib.hid (K1.out.below hb23); replace K3 := Lib.hid (K3.out.below hb23); replace K5 := Lib.hid (K5.out.below hb23); replace K7 := Lib.hid (K7.out.below hb23); replace K9 := Lib.hid (K9.out.below hb23); replace HB := Lib.hid (below_ext HB.out hb23); have hz23 := hb23.size; clear hb23; have tp13 : True := trivial; clear _t tp12)
    | (have _t := tp13; go_at_call 94; refine (S4.out _).mono ?_; rintro e w24 ⟨rfl, hb24⟩; replace K1 := Lib.hid (K1.out.below hb24); replace K3 := Lib.hid (K3.out.below hb24); replace K5 := Lib.hid (K5.out.below hb24); replace K7 := Lib.hid (K7.out.below hb24); replace K9 := Lib.hid (K9.out.below hb24); replace HB := Lib.hid (below_ext HB.out hb24); have hz24 := hb24.size; clear hb24; have tp14 : True := trivial; clear _t tp13))
  go_ret
  exact ⟨rfl, HB.out⟩
def r1 : Ro := ⟨3, 2, 40, zero16.set 1 1, 0, false⟩
def r2 : Ro := ⟨3, 2, 40, (zero16.set 1 1).set 1 2, 0, false⟩
def r3 : Ro := ⟨3, 2, 40, (zero16.set 1 1).set 1 2, 1, false⟩
def r4 : Ro := ⟨3, 2, 40, ((zero16.set 1 1).set 1 2).set 1 0, 0, false⟩
theorem okR_le {x : Ro} (h1 : mayG x.m x.s x.r = true) (h2 : decide (0 ≤ x.cu ∧ x.cu < x.s) = true) (h3 : ∀ i : Nat, i < 16 → (rd x.st (i : Int) ≤ 2 ∧ (x.m ≤ (i : Int) → rd x.st (i : Int) = 0))) (h4 : cnt x.st 2 16 = 1 ∨ (cnt x.st 2 16 = 0 ∧ x.cu = 0)) : mayR x = true :=
  (mayR_iff x).2 ⟨h1, (of_decide_eq_true h2).1, (of_decide_eq_true h2).2, h3, h4⟩
theorem m0 : mayR r0 = true := okR_le (by decide) (by decide) (by decide) (by decide)
theorem m1 : mayR r1 = true := okR_le (by decide) (by decide) (by decide) (by decide)
theorem m2 : mayR r2 = true := okR_le (by decide) (by decide) (by decide) (by decide)
theorem m3 : mayR r3 = true := okR_le (by decide) (by decide) (by decide) (by decide)
theorem m4 : mayR r4 = true := okR_le (by decide) (by decide) (by decide) (by decide)
theorem wf_dec {x : Ro} (h : (x.st.length == 16 && x.st.all fun v => (Lit.int .u8 v).wf) = true) : Wf x := by
  rw [Bool.and_eq_true, beq_iff_eq, List.all_eq_true] at h
  exact h
theorem f0 : Wf r0 := wf_dec (by decide)
theorem f1 : Wf r1 := wf_dec (by decide)
theorem f2 : Wf r2 := wf_dec (by decide)
theorem f3 : Wf r3 := wf_dec (by decide)
theorem f4 : Wf r4 := wf_dec (by decide)
theorem mem1 {x : Ro} (h : mayR x = true) (hm : x.m = 3) : memR x 1 = true := by
  rw [memR, h, hm]; decide
/-- Next of one that heals, its member told -/
theorem next_of {x y : Ro} (hx : Wf x) (h : mayR x = true) {k : Nat} (hk : k < 16) (h2 : rd x.st (k : Int) = 2) (h1 : cnt x.st 2 16 = 1) (hy : (x.cu + 1 = x.s ∧ y = { x with st := x.st.set k 0, cu := 0 }) ∨ (x.cu + 1 ≠ x.s ∧ y = { x with cu := x.cu + 1 })) (w : World) :
    Calls Try.prog 69 #[ros x] w fun z w' => z = .returned (.tuple #[ros y, .int .i64 0]) ∧ Below w.heap.size w w' := by
  obtain ⟨y', e, -, hc, -, hp⟩ := Next_same x hx
  rcases hp with ⟨q, -⟩ | ⟨-, q, -⟩ | ⟨-, rfl, k', hk', h2', hy'⟩
  · rw [h] at q; exact absurd q (by decide)
  · omega
  · have hkk : k' = k := by
      have e1 := cnt_set16 hx.1 hk 0 2
      rw [if_pos h2, if_neg (by decide), h1] at e1
      have e2 := (cnt_none (x.st.set k 0) 2 16).1 (by omega) k' hk'
      rw [rd_set (by rw [hx.1]; exact hk)] at e2
      rcases Nat.decEq k' k with e3 | e3
      · rw [if_neg e3] at e2; exact absurd h2' e2
      · exact e3
    subst hkk
    have : y' = y := by
      rcases hy with ⟨q, rfl⟩ | ⟨q, rfl⟩
      · rcases hy' with ⟨q', rfl⟩ | ⟨q', rfl⟩
        · rfl
        · exact absurd q q'
      · rcases hy' with ⟨q', rfl⟩ | ⟨q', rfl⟩
        · exact absurd q' q
        · rfl
    subst this
    exact hc w
theorem next_none {x : Ro} (hx : Wf x) (h : mayR x = true) (h1 : cnt x.st 2 16 = 0) (w : World) :
    Calls Try.prog 69 #[ros x] w fun z w' => z = .returned (.tuple #[ros ro0, .int .i64 17]) ∧ Below w.heap.size w w' := by
  obtain ⟨y', e, -, hc, -, hp⟩ := Next_same x hx
  rcases hp with ⟨q, -⟩ | ⟨-, -, rfl, rfl⟩ | ⟨-, rfl, k', hk', h2', hy'⟩
  · rw [h] at q; exact absurd q (by decide)
  · exact hc w
  · exact absurd h2' ((cnt_none x.st 2 16).1 h1 k' hk')
theorem lives_any (w : World) : Calls Try.prog 71 #[] w fun e w' => e = .returned (.bool true) ∧ Below w.heap.size w w' := by
  have l1 : loseR r0 1 = (r1, true) := by
    rw [loseR, if_pos (mem1 m0 rfl), if_neg (by decide)]; rfl
  have b1 : beginR r1 1 = (r2, 0) := by
    rw [beginR, if_pos (mem1 m1 rfl), if_pos ⟨by decide, by rw [missR_is m1]; decide, rfl⟩]; rfl
  have P1 := fun w => Lose_any r0 f0 1 w
  have P2 := fun w => Begin_any r1 f1 1 w
  have S0 := fun w => State_any r0 f0 w
  have S1 := fun w => State_any r1 f1 w
  have S2 := fun w => State_any r2 f2 w
  have S4 := fun w => State_any r4 f4 w
  have H1 := fun w => Has_any r1 f1 1 0 w
  have H2 := fun w => Has_any r3 f3 1 0 w
  have H3 := fun w => Has_any r3 f3 1 1 w
  rw [l1] at P1
  rw [b1] at P2
  rw [stateR_of m0 (n := 0) (by rw [missR_is m0]; decide) (d := 0) (by decide)] at S0
  rw [stateR_of m1 (n := 1) (by rw [missR_is m1]; decide) (d := 0) (by decide)] at S1
  rw [stateR_of m2 (n := 1) (by rw [missR_is m2]; decide) (d := 1) (by decide)] at S2
  rw [stateR_of m4 (n := 0) (by rw [missR_is m4]; decide) (d := 0) (by decide)] at S4
  rw [hasR, mem1 m1 rfl] at H1
  rw [hasR, mem1 m3 rfl] at H2 H3
  exact lives_walk r0 r1 r2 r3 r4 (Lib.hid rfl) (Lib.hid rfl) (Lib.hid rfl) (Lib.hid rfl) (Lib.hid rfl) (Lib.hid fun w => two_any w) (Lib.hid P1) (Lib.hid P2)
    (Lib.hid fun w => next_of f2 m2 (k := 1) (by decide) (by decide) (by decide) (.inr ⟨by decide, rfl⟩) w)
    (Lib.hid fun w => next_of f3 m3 (k := 1) (by decide) (by decide) (by decide) (.inl ⟨by decide, rfl⟩) w)
    (Lib.hid fun w => next_none f4 m4 (by decide) w) (Lib.hid S0) (Lib.hid S1) (Lib.hid H1) (Lib.hid S2) (Lib.hid H2) (Lib.hid H3) (Lib.hid S4) w
end Go.Proofs.Ytdchcggllcgokaa.Q
