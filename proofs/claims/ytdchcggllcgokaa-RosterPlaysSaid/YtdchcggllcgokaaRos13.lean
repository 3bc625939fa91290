/-
  Rosters are compared: one law.
-/
import Derived.Test.YtdchcggllcgokaaRos12
namespace Go.Proofs.Ytdchcggllcgokaa.Q
open Go.RowKit Go.Proofs.Ytdchcggllcgokaa.L Go.Proofs.Ytdchcggllcgokaa.R Go.Proofs.YtdchcggllcgokaaW.PrintWords
set_option linter.unusedVariables false
set_option linter.unusedSimpArgs false
theorem part_plain {P : Program} {t : TypeId} (hag : ∀ w : World, (isAgg t).run P w = .ok false w) {cs : Array Value} {o : Nat} {v : Value} (h : cs[o]? = some v) (w : World) : (part t cs o).run P w = .ok v w := by
  simp [part, hag, h]
theorem part_agg {P : Program} {t : TypeId} {n : Nat} (hag : ∀ w : World, (isAgg t).run P w = .ok true w) (hsz : ∀ w : World, (sizeOf t).run P w = .ok n w) {cs ds : Array Value} {o : Nat} (h : cs.extract o (o + n) = ds) (w : World) : (part t cs o).run P w = .ok (.agg ds) w := by
  simp [part, hag, hsz, h]
theorem agg_geo (w : World) : (isAgg 68).run Try.prog w = .ok true w := by kernel_rfl
theorem agg_sts (w : World) : (isAgg 70).run Try.prog w = .ok true w := by kernel_rfl
theorem size_geo (w : World) : (sizeOf 68).run Try.prog w = .ok 3 w := by kernel_rfl
theorem size_sts (w : World) : (sizeOf 70).run Try.prog w = .ok 16 w := by kernel_rfl
theorem ex_geo (x : Ro) : (rosL x).toArray.extract 0 (0 + 3) = #[.int .i64 x.m, .int .i64 x.s, .int .i64 x.r] := by
  simp [rosL]
theorem ex_sts {x : Ro} (h : x.st.length = 16) : (rosL x).toArray.extract 3 (3 + 16) = (nums .u8 x.st).toArray := by
  have hn : (nums .u8 x.st).length = 16 := by rw [nums_length, h]
  simp [rosL, hn]
theorem run_eqg (d : Nat) (w : World) (m s r m' s' r' : Int) : (Op.equalIn (d + 2) 68 (.agg #[.int .i64 m, .int .i64 s, .int .i64 r]) (.agg #[.int .i64 m', .int .i64 s', .int .i64 r'])).run Try.prog w = .ok (m == m' && (s == s' && r == r')) w := by
  refine eqA_of Try.underlying68 (by kernel_rfl) ?_
  refine eqf_cons rfl (part_plain agg_int rfl w) (part_plain agg_int rfl w) (run_equalIn_int w _ _ _ .i64 _ _ Try.underlying3) ?_
  refine eqf_cons rfl (part_plain agg_int rfl w) (part_plain agg_int rfl w) (run_equalIn_int w _ _ _ .i64 _ _ Try.underlying3) ?_
  exact eqf_last rfl (part_plain agg_int rfl w) (part_plain agg_int rfl w) (run_equalIn_int w _ _ _ .i64 _ _ Try.underlying3)
def eqR (x y : Ro) : Bool := (x.m == y.m && (x.s == y.s && x.r == y.r)) && (decide (x.st = y.st) && (x.cu == y.cu && x.go == y.go))
theorem run_eqr (w : World) {x y : Ro} (hx : x.st.length = 16) (hy : y.st.length = 16) : (Op.equalIn 10000 72 (ros x) (ros y)).run Try.prog w = .ok (eqR x y) w := by
  unfold ros eqR
  refine eqA_of Try.underlying72 (by kernel_rfl) ?_
  refine eqf_cons rfl (part_agg agg_geo size_geo (ex_geo x) w) (part_agg agg_geo size_geo (ex_geo y) w) (run_eqg 9997 w _ _ _ _ _ _) ?_
  refine eqf_cons rfl (part_agg agg_sts size_sts (ex_sts hx) w) (part_agg agg_sts size_sts (ex_sts hy) w) (run_equalIn_ints w 9997 _ _ 16 .u8 Try.underlying70 R.under_u8 R.size_u8 x.st y.st hx hy) ?_
  refine eqf_cons rfl (part_plain agg_int (by simpa using at_cu hx) w) (part_plain agg_int (by simpa using at_cu hy) w) (run_equalIn_int w _ _ _ .i64 _ _ Try.underlying3) ?_
  exact eqf_last rfl (part_plain agg_bool (by simpa using at_go hx) w) (part_plain agg_bool (by simpa using at_go hy) w) (run_equalIn_bool' w _ _ _ _ Try.underlying4)
theorem eqR_iff (x y : Ro) : eqR x y = true ↔ x = y := by
  obtain ⟨m, s, r, st, cu, go⟩ := x
  obtain ⟨m', s', r', st', cu', go'⟩ := y
  simp [eqR]
  constructor
  · rintro ⟨⟨rfl, rfl, rfl⟩, rfl, rfl, rfl⟩; exact ⟨rfl, rfl, rfl, rfl, rfl, rfl⟩
  · rintro ⟨rfl, rfl, rfl, rfl, rfl, rfl⟩; exact ⟨⟨rfl, rfl, rfl⟩, rfl, rfl, rfl⟩
end Go.Proofs.Ytdchcggllcgokaa.Q
