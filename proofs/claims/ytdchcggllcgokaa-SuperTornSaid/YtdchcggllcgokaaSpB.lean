/-
  num.Put: the walk. ashlarref01.Put: the walk. num.Get: the walk. num.Get and ashlarref01.Get, whole. Numbers of a width, one behind the other, as bits: plain laws. num.wide, num.Bits: the walks. ashlarref01.Bits: the walk. Numbers of a width that are read: plain laws. num.Unbits: the walk. num.Unbits's errors; ashlarref01.Unbits. ashlarref01.Unbits: the walk.
-/
import Derived.Test.YtdchcggllcgokaaSpA
import Derived.StillTailTactics
namespace Go.Proofs.Ytdchcggllcgokaa.U
open Go.RowKit Go.Proofs.Ytdchcggllcgokaa.L Go.Proofs.YtdchcggllcgokaaW.PrintWords
set_option linter.unusedVariables false
set_option linter.unusedSimpArgs false

/-- the i-th byte of a number, the lowest first -/
def byt (n i : Nat) : Nat := n / 256 ^ i % 256
def putb (n size : Nat) : List Int := (List.range size).map fun i => (byt n i : Int)
theorem putb_length (n size : Nat) : (putb n size).length = size := by simp [putb]

theorem sh (n s : Nat) : (n : Int) / 2 ^ (8 * s) = ((n / 256 ^ s : Nat) : Int) := by
  have e : (2 : Int) ^ (8 * s) = ((256 ^ s : Nat) : Int) := by
    show ((2 : Nat) : Int) ^ (8 * s) = _
    rw [← Int.natCast_pow, Nat.pow_mul]
  rw [e]; exact (Int.natCast_ediv _ _).symm

theorem Put_err (n : Nat) (hn : n < 18446744073709551616) (size : Int) (hs : -9223372036854775808 ≤ size ∧ size ≤ 9223372036854775807) (h : size < 1 ∨ 8 < size) (w : World) :
    Calls Try.prog 42 #[.int .u64 (n : Int), .int .i64 size] w fun e w' => e = .returned (.tuple #[.slice none 0 0, .int .i64 2]) ∧ w = w' := by
  obtain ⟨h1, h2⟩ := hs
  rcases h with h | h
  all_goals
    go_enter Try.func42, Try.ntmps42
    go_wp2
    go_ret2
    exact ⟨rfl, rfl⟩
theorem Put_big (n : Nat) (hn : n < 18446744073709551616) (s : Nat) (h1 : 1 ≤ s) (h2 : s < 8) (h : 256 ^ s ≤ n) (w : World) :
    Calls Try.prog 42 #[.int .u64 (n : Int), .int .i64 (s : Int)] w fun e w' => e = .returned (.tuple #[.slice none 0 0, .int .i64 2]) ∧ w = w' := by
  obtain ⟨m, hm⟩ : ∃ m, m = n / 256 ^ s := ⟨_, rfl⟩
  have hd : (n : Int) / 2 ^ (8 * s) = (m : Int) := by rw [hm]; exact sh n s
  have hp : (0 : Int) < (m : Int) := by
    have : 0 < m := by rw [hm]; exact Nat.div_pos h (Nat.pow_pos (by decide))
    omega
  clear hm h
  go_enter Try.func42, Try.ntmps42
  go_wp2
  go_ret2
  exact ⟨rfl, rfl⟩
theorem put_mid (n s q : Nat) (h : q < s) : ((List.range q).map fun i => (byt n i : Int)) ++ List.replicate (s - q) 0 = ((List.range q).map fun i => (byt n i : Int)) ++ 0 :: List.replicate (s - (q + 1)) 0 := by
  rw [show s - q = (s - (q + 1)) + 1 by omega, List.replicate_succ]
def pmid (n s q : Nat) : List Int := ((List.range q).map fun i => (byt n i : Int)) ++ List.replicate (s - q) 0
theorem pmid_set (n s q : Nat) (h : q < s) : (pmid n s q).set q (byt n q : Int) = pmid n s (q + 1) := by
  unfold pmid
  rw [put_mid n s q h, List.set_append_right _ _ (by simp), List.length_map, List.length_range, Nat.sub_self, List.set_cons_zero, List.range_succ, List.map_append]
  simp
theorem pmid_end (n s : Nat) : pmid n s s = putb n s := by simp [pmid, putb]
set_option maxHeartbeats 400000 in
theorem Put_ok (n : Nat) (hn : n < 18446744073709551616) (s : Nat) (h1 : 1 ≤ s) (h2 : s ≤ 8) (h : n < 256 ^ s) (w : World) :
    Calls Try.prog 42 #[.int .u64 (n : Int), .int .i64 (s : Int)] w fun e w' => ∃ g, e = .returned (.tuple #[.slice (some ⟨g, 0, none⟩) s s, .int .i64 0]) ∧ w'.ownsRow w.heap.size 5 1 (.slice (some ⟨g, 0, none⟩) s s) s (nums .u8 (putb n s)) ∧ Below w.heap.size w w' := by
  have hmk := fun W => run_make_row' (P := Try.prog) 22 5 (.int .u8 0) 1 Try.underlying22 S.info_u8 rfl .i64 .i64 s (by omega) (by omega) W
  have h0 : ¬ (0 : Int) < (0 : Int) := by decide
  have hd : (n : Int) / 2 ^ (8 * s) = 0 := by rw [sh n s, Nat.div_eq_of_lt h]; rfl
  clear h
  go_enter Try.func42, Try.ntmps42
  have h8 : (s : Int) < 8 ∨ ¬ (s : Int) < 8 := by omega
  rcases h8 with h8 | h8
  all_goals
    go_wp2
    clear hd
    go_loopw [28] (fun i wr => ∃ q : Nat, q ≤ s ∧ i = .int .i64 (q : Int) ∧ Hid (wr.ownsRow w.heap.size 5 1 (.slice (some ⟨w.heap.size, 0, none⟩) s s) s (nums .u8 (pmid n s q))) ∧ Hid (Below w.heap.size w wr)) (fun i _ => s - (intOf i).toNat)
    case atStart => exact ⟨0, Nat.zero_le _, rfl, Lib.hid (by simpa [pmid] using own_made w w.heap.size 5 .u8 s (Nat.le_refl _) (by omega)), Lib.hid (below_alloc (Below.refl _ _) _)⟩
    case round =>
      obtain ⟨q, hq, rfl, HO, HB⟩ := hrel
      by_cases hlt : q < s
      · obtain ⟨o1, o2⟩ := own_at' HO.out q hlt
        obtain ⟨m, hm⟩ : ∃ m, m = n / 256 ^ q := ⟨_, rfl⟩
        have hd : (n : Int) / 2 ^ (8 * q) = (m : Int) := by rw [hm]; exact sh n q
        have hx := Lib.hid (show ((m : Int) % 256) = (byt n q : Int) by rw [hm, byt]; omega)
        clear hm
        go_wp2
        go_roundw
        case rel =>
          refine ⟨q + 1, by omega, by go_num, Lib.hid ?_, Lib.hid (HB.out.setCell (by simp) _)⟩
          have h := (own_store HO.out (q : Int) (byt n q : Int)).1
          rw [Int.toNat_natCast, pmid_set n s q hlt] at h
          rw [hx.out]
          exact h
        case measure => simp [intOf]; omega
      · obtain rfl : q = s := by omega
        go_wp2
        go_ret2
        exact ⟨_, rfl, by rw [← pmid_end]; exact HO.out, HB.out⟩
end Go.Proofs.Ytdchcggllcgokaa.U

namespace Go.Proofs.Ytdchcggllcgokaa.U
open Go.RowKit Go.Proofs.Ytdchcggllcgokaa.L Go.Proofs.YtdchcggllcgokaaW.PrintWords
set_option linter.unusedVariables false
set_option linter.unusedSimpArgs false

theorem rPut_err (n : Nat) (hn : n < 18446744073709551616) (size : Int) (hs : -9223372036854775808 ≤ size ∧ size ≤ 9223372036854775807) (h : size < 1 ∨ 8 < size) (w : World) :
    Calls Try.prog 43 #[.int .u64 (n : Int), .int .i64 size] w fun e w' => e = .returned (.tuple #[.slice none 0 0, .int .i64 2]) ∧ w = w' := by
  obtain ⟨h1, h2⟩ := hs
  rcases h with h | h
  all_goals
    go_enter Try.func43, Try.ntmps43
    go_wp2
    go_ret2
    exact ⟨rfl, rfl⟩
theorem putb_next (n q : Nat) : putb n q ++ [(byt n q : Int)] = putb n (q + 1) := by
  simp [putb, List.range_succ]
set_option maxHeartbeats 400000 in
theorem rPut_any (n : Nat) (hn : n < 18446744073709551616) (s : Nat) (h1 : 1 ≤ s) (h2 : s ≤ 8) (w : World) :
    Calls Try.prog 43 #[.int .u64 (n : Int), .int .i64 (s : Int)] w fun e w' => ((256 ^ s ≤ n ∧ e = .returned (.tuple #[.slice none 0 0, .int .i64 2])) ∨ (n < 256 ^ s ∧ ∃ v, e = .returned (.tuple #[v, .int .i64 0]) ∧ w'.ownsRow w.heap.size 5 1 v s (nums .u8 (putb n s)))) ∧ Below w.heap.size w w' := by
  have HN := Lib.hid hn
  go_enter Try.func43, Try.ntmps43
  go_wp2
  go_loopw [0, 6, 7] (fun x v i wr => ∃ q m : Nat, q ≤ s ∧ i = .int .i64 (q : Int) ∧ x = .int .u64 (m : Int) ∧ Hid (m = n / 256 ^ q) ∧ m < 18446744073709551616 ∧ Hid (wr.ownsRow w.heap.size 5 1 v q (nums .u8 (putb n q))) ∧ Hid (Below w.heap.size w wr)) (fun _ _ i _ => s - (intOf i).toNat)
  case atStart => exact ⟨0, n, Nat.zero_le _, rfl, rfl, Lib.hid (by simp), hn, Lib.hid (own_nil w w.heap.size 5 1), Lib.hid (Below.refl _ _)⟩
  case round =>
    obtain ⟨q, m, hq, rfl, rfl, HM, hml, HO, HB⟩ := hrel
    by_cases hlt : q < s
    · obtain ⟨b, hb⟩ : ∃ b, b = m % 256 := ⟨_, rfl⟩
      obtain ⟨d, hd⟩ : ∃ d, d = m / 256 := ⟨_, rfl⟩
      have hb1 : (m : Int) % 256 = (b : Int) := by rw [hb]; rfl
      have hd1 : (m : Int) / 256 = (d : Int) := by rw [hd]; rfl
      have hbl : b < 256 := by omega
      have hdl : d < 18446744073709551616 := by omega
      have HX := Lib.hid (show (b : Int) = (byt n q : Int) by rw [hb, HM.out]; rfl)
      have HD := Lib.hid (show d = n / 256 ^ (q + 1) by rw [hd, HM.out, Nat.div_div_eq_div_mul, Nat.pow_succ])
      clear hb hd
      have hl5 : (((putb n q).length + 1) * 1 ≤ 140737488355328) := by rw [putb_length]; omega
      have HL5 := Lib.hid hl5
      have HO5 : Hid (wr.ownsRow w.heap.size 5 1 _ (putb n q).length (nums .u8 (putb n q))) := Lib.hid (by rw [putb_length]; exact HO.out)
      clear hl5
      go_wp2_with (first
        | (at_builtin; go_loud (refine print_append_num (w0 := w) w.heap.size rfl (.tmp 19) (.tmp 23) 22 5 .u8 1 rfl Try.underlying22 S.info_u8 (by decide) _ (putb n q) (b : Int) rfl rfl HO5.out HB.out HB.out.size HL5.out ?_; intro v1 w5 ho5 hb5 hg5 hat5; rw [HX.out, putb_next, putb_length] at ho5; have B5 := Lib.hid hb5; have O5 := Lib.hid ho5; clear ho5 hb5 hg5 hat5)))
      go_roundw
      case rel => exact ⟨q + 1, d, by omega, by go_num, rfl, HD, hdl, O5, B5⟩
      case measure => simp [intOf]; omega
    · obtain rfl : q = s := by omega
      by_cases hm : 0 < m
      · have HE := Lib.hid (show 256 ^ q ≤ n by
          rw [HM.out] at hm
          exact Nat.le_of_not_lt fun h => by rw [Nat.div_eq_of_lt h] at hm; omega)
        go_wp2
        go_ret2
        exact ⟨.inl ⟨HE.out, rfl⟩, HB.out⟩
      · have HE := Lib.hid (show n < 256 ^ q by
          rw [HM.out] at hm
          exact Nat.lt_of_not_le fun h => hm (Nat.div_pos h (Nat.pow_pos (by decide))))
        go_wp2
        go_ret2
        exact ⟨.inr ⟨HE.out, _, rfl, HO.out⟩, HB.out⟩
end Go.Proofs.Ytdchcggllcgokaa.U

namespace Go.Proofs.Ytdchcggllcgokaa.U
open Go.RowKit Go.Proofs.Ytdchcggllcgokaa.L Go.Proofs.YtdchcggllcgokaaW.PrintWords
set_option linter.unusedVariables false
set_option linter.unusedSimpArgs false

/-- the number that so many bytes are, the lowest first -/
def vle (f : Nat → Nat) : Nat → Nat
  | 0 => 0
  | k + 1 => vle f k + f k * 256 ^ k
theorem vle_lt (f : Nat → Nat) (hf : ∀ i, f i < 256) (k : Nat) : vle f k < 256 ^ k := by
  induction k with
  | zero => simp [vle]
  | succ k ih =>
    have h : f k * 256 ^ k ≤ 255 * 256 ^ k := Nat.mul_le_mul_right _ (by have := hf k; omega)
    rw [vle, Nat.pow_succ]; omega
def bat (xs : List Int) (at_ : Nat) (i : Nat) : Nat := (rd xs ((at_ + i : Nat) : Int)).toNat
theorem rd_byte {xs : List Int} (hw : ∀ x ∈ xs, (Lit.int .u8 x).wf = true) (i : Nat) : 0 ≤ rd xs (i : Int) ∧ rd xs (i : Int) < 256 := by
  rw [rd, Int.toNat_natCast, List.getD_eq_getElem?_getD]
  by_cases h : i < xs.length
  · rw [List.getElem?_eq_getElem h, Option.getD_some]
    obtain ⟨h1, h2⟩ := bounds_u8 (hw _ (List.getElem_mem h))
    omega
  · rw [List.getElem?_eq_none (by omega)]; decide

theorem add_add (a : Addr) (m n : Nat) : (a.add m).add n = a.add (m + n) := by
  unfold Addr.add
  by_cases h1 : m = 0
  · by_cases h2 : n = 0 <;> simp [h1, h2]
  · by_cases h2 : n = 0 <;> simp [h1, h2, Nat.add_assoc]
theorem u64_or (a b : Nat) (ha : a < 18446744073709551616) (hb : b < 18446744073709551616) : bits .or .u64 (a : Int) (b : Int) = ((a ||| b : Nat) : Int) := by
  show IntKind.u64.wrap ((BitVec.ofInt 64 (a : Int) ||| BitVec.ofInt 64 (b : Int)).toNat : Int) = _
  rw [BitVec.ofInt_natCast, BitVec.ofInt_natCast, BitVec.toNat_or, BitVec.toNat_ofNat, BitVec.toNat_ofNat, Nat.mod_eq_of_lt ha, Nat.mod_eq_of_lt hb]
  have h := Nat.or_lt_two_pow (n := 64) ha hb
  exact IntWalk.u64_in _ (by omega)
theorem or_step (n b q : Nat) (hn : n < 256 ^ q) (hb : b < 256) (hq : q < 8) : bits .or .u64 (n : Int) (IntKind.u64.wrap ((b : Int) * 2 ^ (8 * q))) = ((n + b * 256 ^ q : Nat) : Int) := by
  have e : (2 : Int) ^ (8 * q) = ((256 ^ q : Nat) : Int) := by
    show ((2 : Nat) : Int) ^ (8 * q) = _
    rw [← Int.natCast_pow, Nat.pow_mul]
  have hp : 256 ^ q * 256 ≤ 18446744073709551616 := by
    rw [← Nat.pow_succ]
    exact Nat.le_trans (Nat.pow_le_pow_right (by decide) (by omega : q + 1 ≤ 8)) (by decide)
  have hx : b * 256 ^ q < 18446744073709551616 := by
    have h1 : b * 256 ^ q ≤ 255 * 256 ^ q := Nat.mul_le_mul_right _ (by omega)
    have h2 : 0 < 256 ^ q := Nat.pow_pos (by decide)
    omega
  rw [e, ← Int.natCast_mul, IntWalk.u64_in _ (by omega), u64_or n _ (by omega) hx]
  have h2 : (256 : Nat) ^ q = 2 ^ (8 * q) := by rw [Nat.pow_mul]
  have h3 := Nat.two_pow_add_eq_or_of_lt (i := 8 * q) (b := n) (by rw [← h2]; exact hn) b
  rw [h2, Nat.or_comm, Nat.mul_comm b, ← h3, Nat.add_comm]
set_option maxHeartbeats 400000 in
theorem Get_ok (A : Option Addr) (cap : Nat) (xs : List Int) (hw : ∀ x ∈ xs, (Lit.int .u8 x).wf = true) (at_ s : Nat) (h1 : 1 ≤ s) (h2 : s ≤ 8) (h3 : at_ + s ≤ xs.length) (hl : xs.length ≤ cap) (hc : cap ≤ 9223372036854775807) (w : World) (hr : ReadsInt w .u8 A xs.length xs) :
    Calls Try.prog 44 #[.slice A xs.length cap, .int .i64 (at_ : Int), .int .i64 (s : Int)] w fun e w' => e = .returned (.tuple #[.int .u64 (vle (bat xs at_) s : Int), .int .i64 0]) ∧ ∃ j, w' = w.drewN j := by
  have HR := Lib.hid hr
  obtain ⟨ad, rfl, cx⟩ := hr.at_ (at_ : Int) (by omega) (by omega)
  have HN := Lib.hid (show xs.length = xs.length from rfl)
  clear cx hr
  go_enter Try.func44, Try.ntmps44
  go_wp2
  go_loopw [8, 42] (fun x i wr => ∃ q : Nat, q ≤ s ∧ i = .int .i64 (q : Int) ∧ x = .int .u64 (vle (bat xs at_) q : Int) ∧ Hid (∃ j, wr = w.drewN j)) (fun _ i _ => s - (intOf i).toNat)
  case atStart => exact ⟨0, Nat.zero_le _, rfl, rfl, Lib.hid ⟨0, rfl⟩⟩
  case round =>
    obtain ⟨q, hq, rfl, rfl, HW⟩ := hrel
    obtain ⟨j, rfl⟩ := HW.out
    clear HW
    obtain ⟨m, hm⟩ : ∃ m, m = vle (bat xs at_) q := ⟨_, rfl⟩
    rw [← hm]
    by_cases hlt : q < s
    · obtain ⟨b, hb⟩ : ∃ b, b = bat xs at_ q := ⟨_, rfl⟩
      have hrb := rd_byte hw (at_ + q)
      have hbI : rd xs ((at_ + q : Nat) : Int) = (b : Int) := by rw [hb, bat]; omega
      have hbl : b < 256 := by omega
      obtain ⟨ad', e0, cx⟩ := HR.out.at_ ((at_ + q : Nat) : Int) (by omega) (by omega)
      injection e0 with e0
      subst e0
      rw [hbI, Int.toNat_natCast] at cx
      have cx2 : w.cell? ((ad.add at_).add q) = some (.int .u8 (b : Int)) := by rw [← cx, add_add]
      have hml := vle_lt (bat xs at_) (fun i => by have := rd_byte hw (at_ + i); rw [bat]; omega) q
      rw [← hm] at hml
      have HX := Lib.hid (show bits .or .u64 (m : Int) (IntKind.u64.wrap ((b : Int) * 2 ^ (8 * q))) = (vle (bat xs at_) (q + 1) : Int) by
        rw [or_step m b q hml hbl (by omega), vle, ← hm, ← hb])
      have hm64 : m < 18446744073709551616 := by
        have : 256 ^ q ≤ 256 ^ 8 := Nat.pow_le_pow_right (by decide) (by omega)
        omega
      clear hb hrb hbI hml
      clear hm
      go_wp2
      go_roundw
      case rel =>
        refine ⟨q + 1, by omega, by go_num, ?_, Lib.hid ⟨_, rfl⟩⟩
        rw [HX.out]
      case measure => simp [intOf]; omega
    · obtain rfl : q = s := by omega
      subst hm
      go_wp2
      go_ret2
      exact ⟨rfl, _, rfl⟩
end Go.Proofs.Ytdchcggllcgokaa.U

namespace Go.Proofs.Ytdchcggllcgokaa.U
open Go.RowKit Go.Proofs.Ytdchcggllcgokaa.L Go.Proofs.YtdchcggllcgokaaW.PrintWords
set_option linter.unusedVariables false
set_option linter.unusedSimpArgs false

/-- the number, the lowest byte first, from byte q on -/
def vhi (f : Nat → Nat) : Nat → Nat → Nat
  | q, 0 => 0
  | q, k + 1 => f q + 256 * vhi f (q + 1) k
theorem vhi_lt (f : Nat → Nat) (hf : ∀ i, f i < 256) : ∀ k q, vhi f q k < 256 ^ k := by
  intro k
  induction k with
  | zero => intro q; simp [vhi]
  | succ k ih => intro q; have := ih (q + 1); have := hf q; rw [vhi, Nat.pow_succ]; omega
theorem vhi_last (f : Nat → Nat) : ∀ k q, vhi f q (k + 1) = vhi f q k + f (q + k) * 256 ^ k := by
  intro k
  induction k with
  | zero => intro q; simp [vhi]
  | succ k ih =>
    intro q
    have h := ih (q + 1)
    rw [vhi, h, vhi, show q + 1 + k = q + (k + 1) by omega, Nat.mul_add, Nat.pow_succ, Nat.add_assoc]
    congr 2
    rw [← Nat.mul_assoc, Nat.mul_comm 256 (f (q + (k + 1))), Nat.mul_assoc, Nat.mul_comm 256]
theorem vhi_vle (f : Nat → Nat) (s : Nat) : vhi f 0 s = vle f s := by
  induction s with
  | zero => rfl
  | succ s ih => rw [vhi_last, ih, vle, Nat.zero_add]

set_option maxHeartbeats 400000 in
theorem rGet_ok (A : Option Addr) (cap : Nat) (xs : List Int) (hw : ∀ x ∈ xs, (Lit.int .u8 x).wf = true) (at_ s : Nat) (h1 : 1 ≤ s) (h2 : s ≤ 8) (h3 : at_ + s ≤ xs.length) (w : World) (hr : ReadsInt w .u8 A xs.length xs) :
    Calls Try.prog 45 #[.slice A xs.length cap, .int .i64 (at_ : Int), .int .i64 (s : Int)] w fun e w' => e = .returned (.tuple #[.int .u64 (vle (bat xs at_) s : Int), .int .i64 0]) ∧ ∃ j, w' = w.drewN j := by
  have HR := Lib.hid hr
  have hlen := hr.2.1
  clear hr
  go_enter Try.func45, Try.ntmps45
  go_wp2
  go_loopw [8, 9] (fun x i wr => ∃ q : Nat, q ≤ s ∧ i = .int .i64 ((q : Int) - 1) ∧ x = .int .u64 (vhi (bat xs at_) q (s - q) : Int) ∧ Hid (∃ j, wr = w.drewN j)) (fun _ i _ => (intOf i + 1).toNat)
  case atStart => exact ⟨s, Nat.le_refl _, rfl, by rw [Nat.sub_self]; rfl, Lib.hid ⟨0, rfl⟩⟩
  case round =>
    obtain ⟨q, hq, rfl, rfl, HW⟩ := hrel
    obtain ⟨j, rfl⟩ := HW.out
    clear HW
    obtain ⟨m, hm⟩ : ∃ m, m = vhi (bat xs at_) q (s - q) := ⟨_, rfl⟩
    rw [← hm]
    by_cases hlt : 0 < q
    · obtain ⟨p, rfl⟩ : ∃ p, q = p + 1 := ⟨q - 1, by omega⟩
      rw [show ((p + 1 : Nat) : Int) - 1 = (p : Int) by omega]
      obtain ⟨b, hb⟩ : ∃ b, b = bat xs at_ p := ⟨_, rfl⟩
      have hrb := rd_byte hw (at_ + p)
      have hbI : rd xs ((at_ + p : Nat) : Int) = (b : Int) := by rw [hb, bat]; omega
      have hbl : b < 256 := by omega
      obtain ⟨ad, rfl, cx⟩ := HR.out.at_ ((at_ + p : Nat) : Int) (by omega) (by omega)
      rw [hbI, Int.toNat_natCast] at cx
      have hml := vhi_lt (bat xs at_) (fun i => by have := rd_byte hw (at_ + i); rw [bat]; omega) (s - (p + 1)) (p + 1)
      rw [← hm] at hml
      have HX := Lib.hid (show 256 * m + b = vhi (bat xs at_) p (s - p) by rw [show s - p = (s - (p + 1)) + 1 by omega, vhi, ← hm, ← hb]; omega)
      have hm64 : 256 * m + b < 18446744073709551616 := by
        have h8 : 256 ^ (s - (p + 1)) ≤ 256 ^ 7 := Nat.pow_le_pow_right (by decide) (by omega)
        have h9 : m < 256 ^ 7 := Nat.lt_of_lt_of_le hml h8
        omega
      clear hb hrb hbI hml hm
      go_wp2
      go_roundw
      case rel => exact ⟨p, by omega, by go_num, by rw [← HX.out]; go_num, Lib.hid ⟨_, rfl⟩⟩
      case measure => first | (simp [intOf]; done) | (simp [intOf]; omega)
    · obtain rfl : q = 0 := by omega
      have HX := Lib.hid (show m = vle (bat xs at_) s by rw [hm, Nat.sub_zero, vhi_vle])
      have hm64 : m < 18446744073709551616 := by
        rw [HX.out]
        have h8 := vle_lt (bat xs at_) (fun i => by have := rd_byte hw (at_ + i); rw [bat]; omega) s
        have h9 : 256 ^ s ≤ 256 ^ 8 := Nat.pow_le_pow_right (by decide) h2
        omega
      clear hm
      go_wp2
      go_ret2
      exact ⟨by rw [← HX.out]; rfl, _, rfl⟩
/-- what Get answers: a number and an error -/
def gets (xs : List Int) (a s : Int) : Nat × Int :=
  if s < 1 ∨ 8 < s ∨ a < 0 ∨ (xs.length : Int) < a then (0, 2) else if (xs.length : Int) - a < s then (0, 4) else (vle (bat xs a.toNat) s.toNat, 0)
theorem gets_lt {xs : List Int} (hw : ∀ x ∈ xs, (Lit.int .u8 x).wf = true) (a s : Int) : (gets xs a s).1 < 18446744073709551616 := by
  unfold gets
  split
  · decide
  · rename_i h
    split
    · decide
    · have h8 := vle_lt (bat xs a.toNat) (fun i => by have := rd_byte hw (a.toNat + i); rw [bat]; omega) s.toNat
      have h9 : 256 ^ s.toNat ≤ 256 ^ 8 := Nat.pow_le_pow_right (by decide) (by omega)
      show vle (bat xs a.toNat) s.toNat < _
      omega
theorem gets_bad {xs : List Int} {a s : Int} (h : s < 1 ∨ 8 < s ∨ a < 0 ∨ (xs.length : Int) < a) : gets xs a s = (0, 2) := if_pos h
theorem gets_short {xs : List Int} {a s : Int} (h : ¬ (s < 1 ∨ 8 < s ∨ a < 0 ∨ (xs.length : Int) < a)) (h2 : (xs.length : Int) - a < s) : gets xs a s = (0, 4) := by
  rw [gets, if_neg h, if_pos h2]
theorem gets_ok {xs : List Int} {a s : Nat} (h1 : 1 ≤ s) (h2 : s ≤ 8) (h3 : a + s ≤ xs.length) : gets xs a s = (vle (bat xs a) s, 0) := by
  rw [gets, if_neg (by omega), if_neg (by omega)]; rfl
theorem Get_any (A : Option Addr) (cap : Nat) (xs : List Int) (hw : ∀ x ∈ xs, (Lit.int .u8 x).wf = true) (a s : Int) (ha : -9223372036854775808 ≤ a ∧ a ≤ 9223372036854775807) (hs : -9223372036854775808 ≤ s ∧ s ≤ 9223372036854775807) (hl : xs.length ≤ cap) (hc : cap ≤ 9223372036854775807) (w : World) (hr : ReadsInt w .u8 A xs.length xs) :
    Calls Try.prog 44 #[.slice A xs.length cap, .int .i64 a, .int .i64 s] w fun e w' => e = .returned (.tuple #[.int .u64 ((gets xs a s).1 : Int), .int .i64 (gets xs a s).2]) ∧ ∃ j, w' = w.drewN j := by
  obtain ⟨a1, a2⟩ := ha
  obtain ⟨s1, s2⟩ := hs
  have hlen := hr.2.1
  by_cases hbad : s < 1 ∨ 8 < s ∨ a < 0 ∨ (xs.length : Int) < a
  · rw [gets_bad hbad]
    clear hr
    rcases (by omega : s < 1 ∨ (1 ≤ s ∧ 8 < s) ∨ (1 ≤ s ∧ s ≤ 8 ∧ a < 0) ∨ (1 ≤ s ∧ s ≤ 8 ∧ 0 ≤ a ∧ (xs.length : Int) < a)) with g1 | ⟨g1, g2⟩ | ⟨g1, g2, g3⟩ | ⟨g1, g2, g3, g4⟩
    all_goals
      clear hbad
      go_enter Try.func44, Try.ntmps44
      go_wp2
      go_ret2
      exact ⟨rfl, 0, rfl⟩
  · by_cases hsh : (xs.length : Int) - a < s
    · rw [gets_short hbad hsh]
      have b1 : ¬ s < 1 := by omega
      have b2 : ¬ 8 < s := by omega
      have b3 : ¬ a < 0 := by omega
      have b4 : ¬ (xs.length : Int) < a := by omega
      clear hr hbad
      go_enter Try.func44, Try.ntmps44
      go_wp2
      go_ret2
      exact ⟨rfl, 0, rfl⟩
    · obtain ⟨a, rfl⟩ : ∃ n : Nat, a = n := ⟨a.toNat, by omega⟩
      obtain ⟨s, rfl⟩ : ∃ n : Nat, s = n := ⟨s.toNat, by omega⟩
      rw [gets_ok (by omega) (by omega) (by omega)]
      exact Get_ok A cap xs hw a s (by omega) (by omega) (by omega) hl hc w hr
theorem rGet_any (A : Option Addr) (cap : Nat) (xs : List Int) (hw : ∀ x ∈ xs, (Lit.int .u8 x).wf = true) (a s : Int) (ha : -9223372036854775808 ≤ a ∧ a ≤ 9223372036854775807) (hs : -9223372036854775808 ≤ s ∧ s ≤ 9223372036854775807) (hl : xs.length ≤ cap) (hc : cap ≤ 9223372036854775807) (w : World) (hr : ReadsInt w .u8 A xs.length xs) :
    Calls Try.prog 45 #[.slice A xs.length cap, .int .i64 a, .int .i64 s] w fun e w' => e = .returned (.tuple #[.int .u64 ((gets xs a s).1 : Int), .int .i64 (gets xs a s).2]) ∧ ∃ j, w' = w.drewN j := by
  obtain ⟨a1, a2⟩ := ha
  obtain ⟨s1, s2⟩ := hs
  have hlen := hr.2.1
  by_cases hbad : s < 1 ∨ 8 < s ∨ a < 0 ∨ (xs.length : Int) < a
  · rw [gets_bad hbad]
    clear hr
    rcases (by omega : s < 1 ∨ (1 ≤ s ∧ 8 < s) ∨ (1 ≤ s ∧ s ≤ 8 ∧ a < 0) ∨ (1 ≤ s ∧ s ≤ 8 ∧ 0 ≤ a ∧ (xs.length : Int) < a)) with g1 | ⟨g1, g2⟩ | ⟨g1, g2, g3⟩ | ⟨g1, g2, g3, g4⟩
    all_goals
      clear hbad
      go_enter Try.func45, Try.ntmps45
      go_wp2
      go_ret2
      exact ⟨rfl, 0, rfl⟩
  · by_cases hsh : (xs.length : Int) - a < s
    · rw [gets_short hbad hsh]
      have b1 : ¬ s < 1 := by omega
      have b2 : ¬ 8 < s := by omega
      have b3 : ¬ a < 0 := by omega
      have b4 : ¬ (xs.length : Int) < a := by omega
      clear hr hbad
      go_enter Try.func45, Try.ntmps45
      go_wp2
      go_ret2
      exact ⟨rfl, 0, rfl⟩
    · obtain ⟨a, rfl⟩ : ∃ n : Nat, a = n := ⟨a.toNat, by omega⟩
      obtain ⟨s, rfl⟩ : ∃ n : Nat, s = n := ⟨s.toNat, by omega⟩
      rw [gets_ok (by omega) (by omega) (by omega)]
      exact rGet_ok A cap xs hw a s (by omega) (by omega) (by omega)  w hr
end Go.Proofs.Ytdchcggllcgokaa.U

namespace Go.Proofs.Ytdchcggllcgokaa.V
set_option linter.unusedVariables false
set_option linter.unusedSimpArgs false

/-- so many bits as a number, the lowest first -/
def pack (f : Nat → Bool) : Nat → Nat
  | 0 => 0
  | k + 1 => 2 ^ k * (f k).toNat + pack f k
theorem pack_lt (f : Nat → Bool) (k : Nat) : pack f k < 2 ^ k := by
  induction k with
  | zero => simp [pack]
  | succ k ih =>
    have : 2 ^ k * (f k).toNat ≤ 2 ^ k * 1 := Nat.mul_le_mul_left _ (by cases f k <;> decide)
    rw [pack, Nat.pow_succ]; omega
theorem testBit_pack (f : Nat → Bool) (k i : Nat) : (pack f k).testBit i = (decide (i < k) && f i) := by
  induction k with
  | zero => simp [pack]
  | succ k ih =>
    rw [pack, Nat.testBit_two_pow_mul_add _ (pack_lt f k)]
    by_cases h : i < k
    · rw [if_pos h, ih]; simp [h, show i < k + 1 by omega]
    · rw [if_neg h]
      by_cases h2 : i = k
      · subst h2; simp; cases f i <;> rfl
      · obtain ⟨d, hd⟩ : ∃ d, i - k = d + 1 := ⟨i - k - 1, by omega⟩
        rw [hd]
        simp only [show ¬ i < k + 1 by omega, decide_false, Bool.false_and]
        cases f k <;> simp [Nat.testBit_succ]
theorem pack_congr {f g : Nat → Bool} {k : Nat} (h : ∀ i, i < k → f i = g i) : pack f k = pack g k := by
  apply Nat.eq_of_testBit_eq
  intro i
  rw [testBit_pack, testBit_pack]
  by_cases hi : i < k
  · rw [h i hi]
  · simp [hi]
theorem pack_self {n k : Nat} (h : n < 2 ^ k) : pack (fun i => n.testBit i) k = n := by
  apply Nat.eq_of_testBit_eq
  intro i
  rw [testBit_pack]
  by_cases hi : i < k
  · simp [hi]
  · rw [Nat.testBit_lt_two_pow (Nat.lt_of_lt_of_le h (Nat.pow_le_pow_right (by decide) (by omega)))]; simp
theorem pack_zero (k : Nat) : pack (fun _ => false) k = 0 := by
  induction k with
  | zero => rfl
  | succ k ih => rw [pack, ih]; simp
/-- from the top -/
theorem pack_top (f : Nat → Bool) (k q : Nat) : pack (fun i => f (q + i)) (k + 1) = (f q).toNat + 2 * pack (fun i => f (q + 1 + i)) k := by
  induction k with
  | zero => simp [pack]
  | succ k ih =>
    rw [pack, ih, pack, show q + 1 + k = q + (k + 1) by omega, Nat.pow_succ]
    rw [Nat.mul_add, show 2 ^ k * 2 * (f (q + (k + 1))).toNat = 2 * (2 ^ k * (f (q + (k + 1))).toNat) by rw [Nat.mul_comm (2 ^ k) 2, Nat.mul_assoc]]
    omega

/-- the bits of v 0, v 1, .., w of each -/
def bitv (v : Nat → Nat) (w t : Nat) : Bool := (v (t / w)).testBit (t % w)
/-- those of the first i -/
def part (v : Nat → Nat) (w i t : Nat) : Bool := decide (t < i * w) && bitv v w t
/-- the j-th byte of bits -/
def byt8 (f : Nat → Bool) (j : Nat) : Nat := pack (fun k => f (8 * j + k)) 8
theorem byt8_lt (f : Nat → Bool) (j : Nat) : byt8 f j < 256 := pack_lt _ 8
theorem part_succ (v : Nat → Nat) (w i t : Nat) (hw : 0 < w) (hv : v i < 2 ^ w) : part v w (i + 1) t = (part v w i t || (decide (i * w ≤ t) && (v i).testBit (t - i * w))) := by
  unfold part bitv
  by_cases h1 : t < i * w
  · have h2 : t < (i + 1) * w := by rw [Nat.succ_mul]; omega
    simp [h1, h2, show ¬ i * w ≤ t by omega]
  · by_cases h2 : t < (i + 1) * w
    · have h3 : t = w * i + (t - i * w) := by rw [Nat.mul_comm w i]; omega
      have h4 : t - i * w < w := by rw [Nat.succ_mul] at h2; omega
      have h5 : t / w = i := by rw [h3, Nat.mul_add_div hw, Nat.div_eq_of_lt h4, Nat.add_zero]
      have h6 : t % w = t - i * w := by
        have := Nat.mod_eq_of_lt h4
        conv => lhs; rw [h3, Nat.mul_add_mod]
        exact this
      simp [h1, h2, h5, h6, show i * w ≤ t by omega]
    · have h7 : (v i).testBit (t - i * w) = false := Nat.testBit_lt_two_pow (Nat.lt_of_lt_of_le hv (Nat.pow_le_pow_right (by decide) (by rw [Nat.succ_mul] at h2; omega)))
      simp [h1, h2, h7]
/-- the byte that the number begins in -/
theorem byte_in (v : Nat → Nat) (w i : Nat) (hw : 0 < w) (hv : v i < 2 ^ w) :
    byt8 (part v w (i + 1)) (i * w / 8) = byt8 (part v w i) (i * w / 8) ||| v i * 2 ^ (i * w % 8) % 256 := by
  apply Nat.eq_of_testBit_eq
  intro k
  rw [Nat.testBit_or, byt8, byt8, testBit_pack, testBit_pack, show (256 : Nat) = 2 ^ 8 from rfl, Nat.testBit_mod_two_pow, Nat.testBit_mul_two_pow, part_succ v w i _ hw hv]
  by_cases hk : k < 8
  · simp only [hk, decide_true, Bool.true_and]
    congr 1
    by_cases hk2 : i * w % 8 ≤ k
    · have e1 : i * w ≤ 8 * (i * w / 8) + k := by omega
      have e2 : 8 * (i * w / 8) + k - i * w = k - i * w % 8 := by omega
      simp [hk2, e1, e2]
    · have e1 : ¬ i * w ≤ 8 * (i * w / 8) + k := by omega
      simp [hk2, e1]
  · simp [hk]
/-- the byte behind it -/
theorem byte_over (v : Nat → Nat) (w i : Nat) (hw : 0 < w) (hv : v i < 2 ^ w) :
    byt8 (part v w (i + 1)) (i * w / 8 + 1) = byt8 (part v w i) (i * w / 8 + 1) ||| v i / 2 ^ (8 - i * w % 8) % 256 := by
  apply Nat.eq_of_testBit_eq
  intro k
  rw [Nat.testBit_or, byt8, byt8, testBit_pack, testBit_pack, show (256 : Nat) = 2 ^ 8 from rfl, Nat.testBit_mod_two_pow, Nat.testBit_div_two_pow, part_succ v w i _ hw hv]
  by_cases hk : k < 8
  · simp only [hk, decide_true, Bool.true_and]
    congr 1
    have e1 : i * w ≤ 8 * (i * w / 8 + 1) + k := by omega
    have e2 : 8 * (i * w / 8 + 1) + k - i * w = k + (8 - i * w % 8) := by omega
    simp [e1, e2]
  · simp [hk]
/-- no other byte is another one -/
theorem byte_else (v : Nat → Nat) (w i j : Nat) (hw : 0 < w) (hv : v i < 2 ^ w) (h : j < i * w / 8 ∨ i * w / 8 + 1 < j ∨ (i * w / 8 < j ∧ i * w % 8 + w ≤ 8)) (hw8 : w ≤ 8) :
    byt8 (part v w (i + 1)) j = byt8 (part v w i) j := by
  apply pack_congr
  intro k hk
  rw [part_succ v w i _ hw hv]
  by_cases h1 : i * w ≤ 8 * j + k
  · have h2 : w ≤ 8 * j + k - i * w := by omega
    rw [Nat.testBit_lt_two_pow (Nat.lt_of_lt_of_le hv (Nat.pow_le_pow_right (by decide) h2))]
    simp
  · simp [h1]
/-- so many bytes -/
def bytes (f : Nat → Bool) (m : Nat) : List Int := (List.range m).map fun j => (byt8 f j : Int)
theorem bytes_length (f : Nat → Bool) (m : Nat) : (bytes f m).length = m := by simp [bytes]
theorem part_zero (v : Nat → Nat) (w : Nat) : part v w 0 = fun _ => false := by
  funext t; simp [part]
theorem bytes_zero (v : Nat → Nat) (w m : Nat) : bytes (part v w 0) m = List.replicate m 0 := by
  rw [part_zero]
  apply List.ext_getElem
  · simp [bytes]
  · intro i h1 h2
    simp [bytes, byt8, pack_zero]
theorem bytes_set {f g : Nat → Bool} {m j x : Nat} (hj : j < m) (hx : byt8 g j = x) (h : ∀ i, i ≠ j → byt8 g i = byt8 f i) : (bytes f m).set j (x : Int) = bytes g m := by
  apply List.ext_getElem
  · simp [bytes]
  · intro i h1 h2
    rw [List.getElem_set]
    by_cases hi : j = i
    · subst hi; rw [if_pos rfl]; simp [bytes, hx]
    · rw [if_neg hi]; simp [bytes, h i (Ne.symm hi)]
/-- behind the first of two stores: the bits of the next one that lie in the byte it begins in -/
def parth (v : Nat → Nat) (w i t : Nat) : Bool := part v w i t || (decide (t < 8 * (i * w / 8 + 1)) && part v w (i + 1) t)
theorem parth_in (v : Nat → Nat) (w i : Nat) (hw : 0 < w) (hv : v i < 2 ^ w) : byt8 (parth v w i) (i * w / 8) = byt8 (part v w (i + 1)) (i * w / 8) := by
  apply pack_congr
  intro k hk
  rw [parth, part_succ v w i _ hw hv]
  simp only [show 8 * (i * w / 8) + k < 8 * (i * w / 8 + 1) by omega, decide_true, Bool.true_and]
  cases part v w i (8 * (i * w / 8) + k) <;> simp
theorem parth_else (v : Nat → Nat) (w i j : Nat) (hw : 0 < w) (hv : v i < 2 ^ w) (hj : j ≠ i * w / 8) : byt8 (parth v w i) j = byt8 (part v w i) j := by
  apply pack_congr
  intro k hk
  rw [parth, part_succ v w i _ hw hv]
  by_cases h1 : 8 * j + k < 8 * (i * w / 8 + 1)
  · have h2 : ¬ i * w ≤ 8 * j + k := by omega
    simp [h2]
  · simp [h1]
end Go.Proofs.Ytdchcggllcgokaa.V

namespace Go.Proofs.Ytdchcggllcgokaa.U
open Go.RowKit Go.Proofs.Ytdchcggllcgokaa.L Go.Proofs.YtdchcggllcgokaaW.PrintWords
set_option linter.unusedVariables false
set_option linter.unusedSimpArgs false

theorem wide_any (n : Int) (hn : -9223372036854775808 ≤ n ∧ n ≤ 9223372036854775807) (w : World) : Calls Try.prog 116 #[.int .i64 n] w fun e w' => e = .returned (.bool (decide (1 ≤ n ∧ n ≤ 8))) ∧ w = w' := by
  obtain ⟨h1, h2⟩ := hn
  go_enter Try.func116, Try.ntmps116
  by_cases g1 : 1 ≤ n
  · go_wp2
    go_ret
    exact ⟨ret_b (by simp [g1]), rfl⟩
  · go_wp2
    go_ret
    exact ⟨ret_b (by symm; simp; omega), rfl⟩
def val (xs : List Int) (i : Nat) : Nat := (rd xs (i : Int)).toNat
theorem val_rd {xs : List Int} (hw : ∀ x ∈ xs, (Lit.int .u8 x).wf = true) (i : Nat) : rd xs (i : Int) = (val xs i : Int) ∧ val xs i < 256 := by
  have := rd_byte hw i
  rw [val]; omega
theorem Bits_width (A : Option Addr) (cap m : Nat) (n : Int) (hn : -9223372036854775808 ≤ n ∧ n ≤ 9223372036854775807) (h : ¬ (1 ≤ n ∧ n ≤ 8)) (w : World) :
    Calls Try.prog 34 #[.slice A m cap, .int .i64 n] w fun e w' => e = .returned (.tuple #[.slice none 0 0, .int .i64 2]) ∧ w = w' := by
  have P1 := Lib.hid (fun w => decide_eq_false h ▸ wide_any n hn w)
  clear h
  go_enter Try.func34, Try.ntmps34
  go_wp2_with (first
    | (go_at_call 116; refine (P1.out _).mono ?_; rintro e w1 ⟨rfl, rfl⟩))
  go_ret2
  exact ⟨rfl, rfl⟩
theorem bytes_rd (f : Nat → Bool) (m j : Nat) (h : j < m) : rd (V.bytes f m) (j : Int) = (V.byt8 f j : Int) := by
  simp [rd, V.bytes, List.getD_eq_getElem?_getD, List.getElem?_map, List.getElem?_range h]
theorem bytes_congr {f g : Nat → Bool} {m : Nat} (h : ∀ i, V.byt8 f i = V.byt8 g i) : V.bytes f m = V.bytes g m := by
  simp only [V.bytes, h]
theorem u8_shl (n p : Nat) : IntKind.u8.wrap ((n : Int) * 2 ^ p) = ((n * 2 ^ p % 256 : Nat) : Int) := by
  have e : (2 : Int) ^ p = ((2 ^ p : Nat) : Int) := by
    show ((2 : Nat) : Int) ^ p = _
    rw [← Int.natCast_pow]
  rw [e, ← Int.natCast_mul]
  generalize n * 2 ^ p = k
  simp [IntKind.wrap, IntKind.signed, IntKind.bits]
theorem u8_or (a b : Nat) (ha : a < 256) (hb : b < 256) : bits .or .u8 (a : Int) (b : Int) = ((a ||| b : Nat) : Int) := by
  show IntKind.u8.wrap ((BitVec.ofInt 8 (a : Int) ||| BitVec.ofInt 8 (b : Int)).toNat : Int) = _
  rw [BitVec.ofInt_natCast, BitVec.ofInt_natCast, BitVec.toNat_or, BitVec.toNat_ofNat, BitVec.toNat_ofNat, Nat.mod_eq_of_lt ha, Nat.mod_eq_of_lt hb]
  have h := Nat.or_lt_two_pow (n := 8) ha hb
  exact IntWalk.u8_in _ (by omega)
set_option maxRecDepth 100000 in
set_option maxHeartbeats 1000000 in
theorem Bits_any (A : Option Addr) (cap : Nat) (xs : List Int) (hw : ∀ x ∈ xs, (Lit.int .u8 x).wf = true) (s : Nat) (h1 : 1 ≤ s) (h2 : s ≤ 8) (hl : xs.length ≤ 1048576) (w : World) (hr : ReadsInt w .u8 A xs.length xs) :
    Calls Try.prog 34 #[.slice A xs.length cap, .int .i64 (s : Int)] w fun e w' => (((∃ i, i < xs.length ∧ 2 ^ s ≤ val xs i) ∧ e = .returned (.tuple #[.slice none 0 0, .int .i64 2])) ∨ ((∀ i, i < xs.length → val xs i < 2 ^ s) ∧ ∃ g, e = .returned (.tuple #[.slice (some ⟨g, 0, none⟩) ((xs.length * s + 7) / 8) ((xs.length * s + 7) / 8), .int .i64 0]) ∧ w'.ownsRow w.heap.size 5 1 (.slice (some ⟨g, 0, none⟩) ((xs.length * s + 7) / 8) ((xs.length * s + 7) / 8)) ((xs.length * s + 7) / 8) (nums .u8 (V.bytes (V.part (val xs) s xs.length) ((xs.length * s + 7) / 8))))) ∧ Below w.heap.size w w' := by
  have HR := Lib.hid hr
  have P1 : Hid (∀ w, Calls Try.prog 116 #[.int .i64 (s : Int)] w fun e w' => e = .returned (.bool true) ∧ w = w') := Lib.hid fun w => by
    have h := wide_any (s : Int) (by omega) w
    rw [decide_eq_true (by omega : 1 ≤ (s : Int) ∧ (s : Int) ≤ 8)] at h
    exact h
  obtain ⟨L, hL⟩ : ∃ L, L = xs.length * s := ⟨_, rfl⟩
  have hL1 : (xs.length : Int) * (s : Int) = (L : Int) := by rw [hL]; exact (Int.natCast_mul _ _).symm
  have hL2 : L ≤ 8388608 := by rw [hL]; exact Nat.mul_le_mul hl h2
  rw [← hL]
  have HL := Lib.hid hL
  obtain ⟨M, hM⟩ : ∃ M, M = (L + 7) / 8 := ⟨_, rfl⟩
  rw [← hM]
  have hM1 : M ≤ 1048577 := by omega
  have hM2 : L ≤ 8 * M := by omega
  have hmk : ∀ W : World, (Instr.makeSlice 22 (.int .i64 (((L : Int) + 8 - 1) / 8)) (.int .i64 (((L : Int) + 8 - 1) / 8))).run Try.prog W = .ok (.slice (some ⟨W.heap.size, 0, none⟩) M M) (W.alloc (.cells (madeCells #[.int .u8 0] M) 5)) := fun W => by
    have h := run_make_row' (P := Try.prog) 22 5 (.int .u8 0) 1 Try.underlying22 S.info_u8 rfl .i64 .i64 M (by omega) (by omega) W
    rwa [show (M : Int) = ((L : Int) + 8 - 1) / 8 by omega] at h
  clear hr hL hM
  go_enter Try.func34, Try.ntmps34
  go_wp2_with (first
    | (go_at_call 116; refine (P1.out _).mono ?_; rintro e w1 ⟨rfl, rfl⟩))
  clear hL1 hmk
  go_loopw [24] (fun i wr => ∃ q : Nat, q ≤ xs.length ∧ i = .int .i64 (q : Int) ∧ Hid (∀ i, i < q → val xs i < 2 ^ s) ∧ Hid (wr.ownsRow w.heap.size 5 1 (.slice (some ⟨w.heap.size, 0, none⟩) M M) M (nums .u8 (V.bytes (V.part (val xs) s q) M))) ∧ Hid (Below w.heap.size w wr)) (fun i _ => xs.length - (intOf i).toNat)
  case atStart => exact ⟨0, Nat.zero_le _, rfl, Lib.hid (fun i h => absurd h (by omega)), Lib.hid (by rw [V.bytes_zero]; exact own_made w w.heap.size 5 .u8 M (Nat.le_refl _) (by omega)), Lib.hid (below_alloc (Below.refl _ _) _)⟩
  case round =>
    obtain ⟨q, hq, rfl, HV, HO, HB⟩ := hrel
    by_cases hlt : q < xs.length
    · obtain ⟨n, hn⟩ : ∃ n, n = val xs q := ⟨_, rfl⟩
      obtain ⟨hrd, hn8⟩ := val_rd hw q
      rw [← hn] at hrd hn8
      obtain ⟨ad, rfl, cx⟩ := (HR.out.below HB.out).at_ (q : Int) (by omega) (by omega)
      rw [hrd, Int.toNat_natCast] at cx
      obtain ⟨r, hr⟩ : ∃ r, r = n / 2 ^ s := ⟨_, rfl⟩
      have hd : (n : Int) / 2 ^ s = (r : Int) := by rw [hr]; exact (Int.natCast_ediv _ _).symm
      have hrl : r ≤ n := by rw [hr]; exact Nat.div_le_self _ _
      by_cases hr0 : 0 < r
      · have HE := Lib.hid (show ∃ i, i < xs.length ∧ 2 ^ s ≤ val xs i from ⟨q, hlt, by
          rw [← hn]; exact Nat.le_of_not_lt fun h => by rw [hr, Nat.div_eq_of_lt h] at hr0; omega⟩)
        clear hr hn
        go_wp2
        go_ret2
        exact ⟨.inl ⟨HE.out, rfl⟩, HB.out⟩
      · have HE := Lib.hid (show val xs q < 2 ^ s by
          rw [← hn]; exact Nat.lt_of_not_le fun h => hr0 (by rw [hr]; exact Nat.div_pos h (Nat.pow_pos (by decide))))
        obtain ⟨a, ha⟩ : ∃ a, a = q * s := ⟨_, rfl⟩
        have ha1 : (q : Int) * (s : Int) = (a : Int) := by rw [ha]; exact (Int.natCast_mul _ _).symm
        have ha2 : a + s ≤ L := by
          rw [HL.out, ha, ← Nat.succ_mul]; exact Nat.mul_le_mul_right s hlt
        obtain ⟨j, hj⟩ : ∃ j, j = a / 8 := ⟨_, rfl⟩
        obtain ⟨p, hp⟩ : ∃ p, p = a % 8 := ⟨_, rfl⟩
        have hj1 : (a : Int) / 8 = (j : Int) := by omega
        have hp1 : (a : Int) % 8 = (p : Int) := by omega
        have hjM : j < M := by omega
        obtain ⟨o1, o2⟩ := own_at' HO.out j hjM
        obtain ⟨o, ho⟩ : ∃ o, o = V.byt8 (V.part (val xs) s q) j := ⟨_, rfl⟩
        rw [bytes_rd _ _ _ hjM, ← ho] at o1
        obtain ⟨x, hx⟩ : ∃ x, x = n * 2 ^ p % 256 := ⟨_, rfl⟩
        obtain ⟨y, hy⟩ : ∃ y, y = V.byt8 (V.part (val xs) s (q + 1)) j := ⟨_, rfl⟩
        have e1 : IntKind.u8.wrap ((n : Int) * 2 ^ p) = (x : Int) := by rw [hx]; exact u8_shl n p
        have hol : o < 256 := by rw [ho]; exact V.byt8_lt _ _
        have hxl : x < 256 := by omega
        have e2 : bits .or .u8 (o : Int) (x : Int) = (y : Int) := by
          rw [u8_or o x hol hxl, hy, hj, ha, V.byte_in _ _ _ (by omega) HE.out, ← ha, ← hj, ← hp, ← hn, ← hx, ← ho]
        have hyl : y < 256 := by rw [hy]; exact V.byt8_lt _ _
        have HY := Lib.hid (show (V.bytes (V.part (val xs) s q) M).set j (y : Int) = V.bytes (V.parth (val xs) s q) M from
          V.bytes_set hjM (by rw [hy, hj, ha]; exact V.parth_in _ _ _ (by omega) HE.out) (fun i hi => V.parth_else _ _ _ _ (by omega) HE.out (by rw [← ha, ← hj]; exact hi)))
        have f1 : IntKind.i64.wrap (j : Int) = (j : Int) := IntWalk.i64_in _ (by omega)
        have f2 : IntKind.i64.wrap (p : Int) = (p : Int) := IntWalk.i64_in _ (by omega)
        have f3 : (a : Int).tmod 8 = (p : Int) := by rw [Int.tmod_eq_emod_of_nonneg (by omega)]; exact hp1
        have i1 : (0 : Int) ≤ (j : Int) := by omega
        have i2 : (j : Int) < (M : Int) := by omega
        have i3 : (0 : Int) ≤ (p : Int) := by omega
        clear ho hx hy
        have HA := Lib.hid ha
        have HJ := Lib.hid hj
        have HP := Lib.hid hp
        have HNn := Lib.hid hn
        clear hr ha hj hp hn
        go_wp2
        refine wp_region_still_tail 11 (by kernel_rfl) (by kernel_rfl) ?_
        simp only [List.take_succ_cons, List.take_zero, List.drop_succ_cons, List.drop_zero]
        repeat still_step
        refine wpStill_nil ?_
        have p2 : wr.drew.frozen? ⟨w.heap.size, j, none⟩ = false := o2
        have HO4 : Hid (wr.drew.ownsRow w.heap.size 5 1 (.slice (some ⟨w.heap.size, 0, none⟩) M M) M (nums .u8 (V.bytes (V.part (val xs) s q) M))) := Lib.hid (own_drew HO.out)
        have HB4 : Hid (Below w.heap.size w wr.drew) := Lib.hid (below_drewN HB.out 1)
        have HO6 : Hid ((wr.drew.setCell ⟨w.heap.size, j, none⟩ (.int .u8 (y : Int))).ownsRow w.heap.size 5 1 (.slice (some ⟨w.heap.size, 0, none⟩) M M) M (nums .u8 (V.bytes (V.parth (val xs) s q) M))) := Lib.hid (by
          have h := (own_store HO4.out (j : Int) (y : Int)).1
          rw [Int.toNat_natCast, HY.out] at h
          exact h)
        have HB6 := Lib.hid (HB4.out.setCell (p := ⟨w.heap.size, j, none⟩) (by simp) (.int .u8 (y : Int)))
        have p1 : wr.drew.cell? ⟨w.heap.size, j, none⟩ = some (.int .u8 (o : Int)) := o1
        clear HO4 HB4 HO HB o1 o2 e1 e2 cx
        change wpList _ _ _ _ _ wr.drew
        generalize wr.drew = w3 at p1 p2 HO6 HB6 ⊢
        by_cases hov : 8 < p + s
        · obtain ⟨d, hdd⟩ : ∃ d, d = 8 - p := ⟨_, rfl⟩
          have hd1 : IntKind.i64.wrap ((s : Int) - ((p : Int) + (s : Int) - 8)) = (d : Int) := by rw [IntWalk.i64_in _ (by omega)]; omega
          obtain ⟨z, hz⟩ : ∃ z, z = n / 2 ^ d := ⟨_, rfl⟩
          have hz1 : (n : Int) / 2 ^ d = (z : Int) := by rw [hz]; exact (Int.natCast_ediv _ _).symm
          have hz2 : (n : Int) / 2 ^ (min d 8) = (z : Int) := by rw [Nat.min_eq_left (by omega)]; exact hz1
          have hzl : z < 256 := by
            have : z ≤ n := by rw [hz]; exact Nat.div_le_self _ _
            omega
          have hj8 : a = 8 * j + p := by rw [HJ.out, HP.out]; omega
          have hjM2 : j + 1 < M := by omega
          obtain ⟨u, hu⟩ : ∃ u, u = V.byt8 (V.part (val xs) s q) (j + 1) := ⟨_, rfl⟩
          have hu2 : V.byt8 (V.parth (val xs) s q) (j + 1) = u := by
            rw [hu]; exact V.parth_else _ _ _ _ (by omega) HE.out (by rw [← HA.out, ← HJ.out]; omega)
          obtain ⟨t, ht⟩ : ∃ t, t = V.byt8 (V.part (val xs) s (q + 1)) (j + 1) := ⟨_, rfl⟩
          have hul : u < 256 := by rw [hu]; exact V.byt8_lt _ _
          have htl : t < 256 := by rw [ht]; exact V.byt8_lt _ _
          have e3 : bits .or .u8 (u : Int) (z : Int) = (t : Int) := by
            rw [u8_or u z hul hzl, ht, HJ.out, HA.out, V.byte_over _ _ _ (by omega) HE.out, ← HA.out, ← HJ.out, ← HP.out, ← HNn.out, ← hdd, ← hz, ← hu, Nat.mod_eq_of_lt hzl]
          have HT := Lib.hid (show (V.bytes (V.parth (val xs) s q) M).set (j + 1) (t : Int) = V.bytes (V.part (val xs) s (q + 1)) M from
            V.bytes_set hjM2 ht.symm (fun i hi => by
              by_cases hij : i = j
              · rw [hij, HJ.out, HA.out]; exact (V.parth_in _ _ _ (by omega) HE.out).symm
              · rw [V.parth_else _ _ _ _ (by omega) HE.out (by rw [← HA.out, ← HJ.out]; exact hij)]
                exact V.byte_else _ _ _ _ (by omega) HE.out (by rw [← HA.out, ← HJ.out]; omega) h2))
          have i4 : (0 : Int) ≤ (j : Int) + 1 := by omega
          have i5 : (j : Int) + 1 < (M : Int) := by omega
          have i6 : ((j : Int) + 1).toNat = j + 1 := by omega
          have f4 : IntKind.i64.wrap ((j : Int) + 1) = (j : Int) + 1 := IntWalk.i64_in _ (by omega)
          have i7 : (0 : Int) ≤ (d : Int) := by omega
          clear hz ht hu hdd hj8
          go_wp2
          generalize w3.setCell ⟨w.heap.size, j, none⟩ (.int .u8 (y : Int)) = w4 at HO6 HB6 ⊢
          obtain ⟨o3, o4⟩ := own_at' HO6.out (j + 1) hjM2
          rw [bytes_rd _ _ _ hjM2, hu2] at o3
          clear hu2
          refine wp_region_still_tail 13 (by kernel_rfl) (by kernel_rfl) ?_
          simp only [List.take_succ_cons, List.take_zero, List.drop_succ_cons, List.drop_zero]
          repeat still_step
          refine wpStill_nil ?_
          have p4 : w4.drew.frozen? ⟨w.heap.size, j + 1, none⟩ = false := o4
          have HO7 : Hid (w4.drew.ownsRow w.heap.size 5 1 (.slice (some ⟨w.heap.size, 0, none⟩) M M) M (nums .u8 (V.bytes (V.parth (val xs) s q) M))) := Lib.hid (own_drew HO6.out)
          have HB7 : Hid (Below w.heap.size w w4.drew) := Lib.hid (below_drewN HB6.out 1)
          have HO8 : Hid ((w4.drew.setCell ⟨w.heap.size, j + 1, none⟩ (.int .u8 (t : Int))).ownsRow w.heap.size 5 1 (.slice (some ⟨w.heap.size, 0, none⟩) M M) M (nums .u8 (V.bytes (V.part (val xs) s (q + 1)) M))) := Lib.hid (by
            have h := (own_store HO7.out ((j + 1 : Nat) : Int) (t : Int)).1
            rw [Int.toNat_natCast, HT.out] at h
            exact h)
          have HB8 := Lib.hid (HB7.out.setCell (p := ⟨w.heap.size, j + 1, none⟩) (by simp) (.int .u8 (t : Int)))
          have p5 : w4.drew.cell? ⟨w.heap.size, j + 1, none⟩ = some (.int .u8 (u : Int)) := o3
          clear HO7 HB7 HO6 HB6 o3 o4 e3 hd1 hz1 hz2
          change wpList _ _ _ _ _ w4.drew
          generalize w4.drew = w5 at p4 p5 HO8 HB8 ⊢
          go_wp2
          go_roundw
          case rel =>
            exact ⟨q + 1, by omega, by go_num, Lib.hid (fun i h => by
              by_cases hi : i = q
              · rw [hi]; exact HE.out
              · exact HV.out i (by omega)), HO8, HB8⟩
          case measure => simp [intOf]; omega
        · have HT := Lib.hid (show V.bytes (V.parth (val xs) s q) M = V.bytes (V.part (val xs) s (q + 1)) M from
            bytes_congr (fun i => by
              by_cases hij : i = j
              · rw [hij, HJ.out, HA.out]; exact V.parth_in _ _ _ (by omega) HE.out
              · rw [V.parth_else _ _ _ _ (by omega) HE.out (by rw [← HA.out, ← HJ.out]; exact hij)]
                have hpp := HP.out
                exact (V.byte_else _ _ _ _ (by omega) HE.out (by rw [← HA.out, ← HJ.out, ← HP.out]; omega) h2).symm))
          go_wp2
          go_roundw
          case rel =>
            exact ⟨q + 1, by omega, by go_num, Lib.hid (fun i h => by
              by_cases hi : i = q
              · rw [hi]; exact HE.out
              · exact HV.out i (by omega)), by rw [← HT.out]; exact HO6, HB6⟩
          case measure => simp [intOf]; omega
    · obtain rfl : q = xs.length := by omega
      go_wp2
      go_ret2
      exact ⟨.inr ⟨HV.out, _, rfl, HO.out⟩, HB.out⟩
end Go.Proofs.Ytdchcggllcgokaa.U

namespace Go.Proofs.Ytdchcggllcgokaa.U
open Go.RowKit Go.Proofs.Ytdchcggllcgokaa.L Go.Proofs.YtdchcggllcgokaaW.PrintWords
set_option linter.unusedVariables false
set_option linter.unusedSimpArgs false

/-- bits as a list of 0 and 1 -/
def rowl (f : Nat → Bool) (t : Nat) : List Int := (List.range t).map fun i => ((f i).toNat : Int)
theorem rowl_length (f : Nat → Bool) (t : Nat) : (rowl f t).length = t := by simp [rowl]
theorem rowl_next (f : Nat → Bool) (t b : Nat) (h : b = (f t).toNat) : rowl f t ++ [(b : Int)] = rowl f (t + 1) := by
  subst h; simp [rowl, List.range_succ]
theorem rowl_rd (f : Nat → Bool) (t i : Nat) (h : i < t) : rd (rowl f t) (i : Int) = ((f i).toNat : Int) := by
  simp [rd, rowl, List.getD_eq_getElem?_getD, List.getElem?_map, List.getElem?_range h]
theorem bit_at (v : Nat → Nat) (s q k : Nat) (hk : k < s) : (V.bitv v s (q * s + k)).toNat = v q / 2 ^ k % 2 := by
  have h1 : (q * s + k) / s = q := by rw [Nat.mul_comm, Nat.mul_add_div (by omega), Nat.div_eq_of_lt hk, Nat.add_zero]
  have h2 : (q * s + k) % s = k := by rw [Nat.mul_comm, Nat.mul_add_mod, Nat.mod_eq_of_lt hk]
  rw [V.bitv, h1, h2, Nat.testBit_eq_decide_div_mod_eq]
  by_cases h : v q / 2 ^ k % 2 = 1
  · simp [h]
  · have : v q / 2 ^ k % 2 = 0 := by omega
    simp [this]
theorem rBits_width (A : Option Addr) (cap m : Nat) (n : Int) (hn : -9223372036854775808 ≤ n ∧ n ≤ 9223372036854775807) (h : ¬ (1 ≤ n ∧ n ≤ 8)) (w : World) :
    Calls Try.prog 35 #[.slice A m cap, .int .i64 n] w fun e w' => e = .returned (.tuple #[.slice none 0 0, .int .i64 2]) ∧ w = w' := by
  obtain ⟨h1, h2⟩ := hn
  rcases (by omega : n < 1 ∨ (1 ≤ n ∧ 8 < n)) with g | ⟨g, g'⟩
  all_goals
    clear h
    go_enter Try.func35, Try.ntmps35
    go_wp2
    go_ret2
    exact ⟨rfl, rfl⟩
set_option maxRecDepth 100000 in
set_option maxHeartbeats 1000000 in
theorem rBits_any (A : Option Addr) (cap : Nat) (xs : List Int) (hw : ∀ x ∈ xs, (Lit.int .u8 x).wf = true) (s : Nat) (h1 : 1 ≤ s) (h2 : s ≤ 8) (hl : xs.length ≤ 1048576) (w : World) (hr : ReadsInt w .u8 A xs.length xs) :
    Calls Try.prog 35 #[.slice A xs.length cap, .int .i64 (s : Int)] w fun e w' => (((∃ i, i < xs.length ∧ 2 ^ s ≤ val xs i) ∧ e = .returned (.tuple #[.slice none 0 0, .int .i64 2])) ∨ ((∀ i, i < xs.length → val xs i < 2 ^ s) ∧ ∃ v, e = .returned (.tuple #[v, .int .i64 0]) ∧ w'.ownsRow w.heap.size 5 1 v ((xs.length * s + 7) / 8) (nums .u8 (V.bytes (V.part (val xs) s xs.length) ((xs.length * s + 7) / 8))))) ∧ Below w.heap.size w w' := by
  have HR := Lib.hid hr
  have HLs := Lib.hid (show xs.length * s ≤ 8388608 from Nat.mul_le_mul hl h2)
  clear hr
  go_enter Try.func35, Try.ntmps35
  go_wp2
  go_loopw [6, 7] (fun v i wr => ∃ q T : Nat, q ≤ xs.length ∧ i = .int .i64 (q : Int) ∧ Hid (T = q * s) ∧ T ≤ 8388608 ∧ Hid (∀ i, i < q → val xs i < 2 ^ s) ∧ Hid (wr.ownsRow w.heap.size 5 1 v T (nums .u8 (rowl (V.bitv (val xs) s) T))) ∧ Hid (Below w.heap.size w wr)) (fun _ i _ => xs.length - (intOf i).toNat)
  case atStart => exact ⟨0, 0, Nat.zero_le _, rfl, Lib.hid (by omega), by omega, Lib.hid (fun i h => absurd h (by omega)), Lib.hid (own_nil w w.heap.size 5 1), Lib.hid (Below.refl _ _)⟩
  case round =>
    obtain ⟨q, T, hq, rfl, HT, hT8, HV, HO, HB⟩ := hrel
    by_cases hlt : q < xs.length
    · obtain ⟨n, hn⟩ : ∃ n, n = val xs q := ⟨_, rfl⟩
      obtain ⟨hrd, hn8⟩ := val_rd hw q
      rw [← hn] at hrd hn8
      obtain ⟨ad, rfl, cx⟩ := (HR.out.below HB.out).at_ (q : Int) (by omega) (by omega)
      rw [hrd, Int.toNat_natCast] at cx
      have HNn := Lib.hid hn
      have HT9 := Lib.hid (show q * s + s ≤ 8388608 by
        rw [← Nat.succ_mul]; exact Nat.le_trans (Nat.mul_le_mul_right s hlt) HLs.out)
      clear hn hrd
      go_wp2
      clear cx
      obtain ⟨w2, rfl⟩ : ∃ w2 : World, w2 = wr := ⟨_, rfl⟩
      go_loopw [6, 8, 9] (fun v x i wr => ∃ k m T : Nat, k ≤ s ∧ i = .int .i64 (k : Int) ∧ x = .int .u8 (m : Int) ∧ Hid (m = n / 2 ^ k) ∧ m < 256 ∧ Hid (T = q * s + k) ∧ T ≤ 8388608 ∧ Hid (wr.ownsRow w.heap.size 5 1 v T (nums .u8 (rowl (V.bitv (val xs) s) T))) ∧ Hid (Below w.heap.size w wr)) (fun _ _ i _ => s - (intOf i).toNat)
      case atStart => exact ⟨0, n, T, Nat.zero_le _, rfl, rfl, Lib.hid (by simp), hn8, Lib.hid (by rw [HT.out]; rfl), hT8, HO, HB⟩
      case round =>
        obtain ⟨k, m, T2, hk, rfl, rfl, HM, hm8, HT2, hT28, HO2, HB2⟩ := hrel
        clear HO HB HT hT8
        by_cases hkl : k < s
        · obtain ⟨b, hb⟩ : ∃ b, b = m % 2 := ⟨_, rfl⟩
          obtain ⟨d, hd⟩ : ∃ d, d = m / 2 := ⟨_, rfl⟩
          have hb1 : (m : Int) % 2 = (b : Int) := by rw [hb]; rfl
          have hd1 : (m : Int) / 2 = (d : Int) := by rw [hd]; rfl
          have hbl : b < 2 := by omega
          have hdl : d < 256 := by omega
          have HD := Lib.hid (show d = n / 2 ^ (k + 1) by rw [hd, HM.out, Nat.div_div_eq_div_mul, Nat.pow_succ])
          have HX := Lib.hid (rowl_next (V.bitv (val xs) s) T2 b (by rw [HT2.out, bit_at _ _ _ _ hkl, hb, HM.out, HNn.out]))
          have HT3 := Lib.hid (show T2 + 1 = q * s + (k + 1) by rw [HT2.out]; omega)
          have hT38 : T2 + 1 ≤ 8388608 := by rw [HT3.out]; have := HT9.out; omega
          have HL5 := Lib.hid (show (((rowl (V.bitv (val xs) s) T2).length + 1) * 1 ≤ 140737488355328) by rw [rowl_length]; omega)
          have HO5 : Hid (wr.ownsRow w.heap.size 5 1 _ (rowl (V.bitv (val xs) s) T2).length (nums .u8 (rowl (V.bitv (val xs) s) T2))) := Lib.hid (by rw [rowl_length]; exact HO2.out)
          clear hb hd
          go_wp2_with (first
            | (at_builtin; go_loud (refine print_append_num (w0 := w) w.heap.size rfl (.tmp 35) (.tmp 38) 22 5 .u8 1 rfl Try.underlying22 S.info_u8 (by decide) _ (rowl (V.bitv (val xs) s) T2) ((b : Int)) rfl rfl HO5.out HB2.out HB2.out.size HL5.out ?_; intro v1 w5 ho5 hb5 hg5 hat5; rw [HX.out, rowl_length] at ho5; have B5 := Lib.hid hb5; have O5 := Lib.hid ho5; clear ho5 hb5 hg5 hat5)))
          go_roundw
          case rel => exact ⟨k + 1, d, T2 + 1, by omega, by go_num, rfl, HD, hdl, HT3, hT38, O5, B5⟩
          case measure => simp [intOf]; omega
        · obtain rfl : k = s := by omega
          by_cases hm : 0 < m
          · have HE := Lib.hid (show ∃ i, i < xs.length ∧ 2 ^ k ≤ val xs i from ⟨q, hlt, by
              rw [← HNn.out]; rw [HM.out] at hm
              exact Nat.le_of_not_lt fun h => by rw [Nat.div_eq_of_lt h] at hm; omega⟩)
            go_wp2
            go_ret2
            exact ⟨.inl ⟨HE.out, rfl⟩, HB2.out⟩
          · have HE := Lib.hid (show val xs q < 2 ^ k by
              rw [← HNn.out]; rw [HM.out] at hm
              exact Nat.lt_of_not_le fun h => hm (Nat.div_pos h (Nat.pow_pos (by decide))))
            go_wp2
            go_roundw
            case rel =>
              exact ⟨q + 1, T2, by omega, by go_num, Lib.hid (by rw [HT2.out, Nat.succ_mul]), hT28, Lib.hid (fun i h => by
                by_cases hi : i = q
                · rw [hi]; exact HE.out
                · exact HV.out i (by omega)), HO2, HB2⟩
            case measure => simp [intOf]; omega
    · obtain rfl : q = xs.length := by omega
      obtain ⟨A6, c6, rfl, hr6⟩ := own_reads HO.out
      have R6 := Lib.hid hr6
      obtain ⟨g, hg⟩ : ∃ g, g = V.part (val xs) s xs.length := ⟨_, rfl⟩
      have HG1 : Hid (∀ t, t < T → (g t).toNat = (V.bitv (val xs) s t).toNat) := Lib.hid (fun t ht => by rw [hg, V.part, decide_eq_true (by rw [← HT.out]; exact ht), Bool.true_and])
      have HG2 : Hid (∀ t, ¬ t < T → g t = false) := Lib.hid (fun t ht => by rw [hg, V.part, decide_eq_false (by rw [← HT.out]; exact ht), Bool.false_and])
      have HG := Lib.hid hg
      clear hr6 hg HO
      go_wp2
      obtain ⟨w2, rfl⟩ : ∃ w2 : World, w2 = wr := ⟨_, rfl⟩
      go_loopw [10, 11] (fun v i wr => ∃ j : Nat, 8 * j < T + 8 ∧ i = .int .i64 ((8 * j : Nat) : Int) ∧ Hid (wr.ownsRow w2.heap.size 5 1 v j (nums .u8 (V.bytes g j))) ∧ Hid (Below w2.heap.size w2 wr)) (fun _ i _ => T + 8 - (intOf i).toNat)
      case atStart => exact ⟨0, by omega, rfl, Lib.hid (own_nil w2 w2.heap.size 5 1), Lib.hid (Below.refl _ _)⟩
      case round =>
        obtain ⟨j, hj, rfl, HO3, HB3⟩ := hrel
        by_cases hjl : 8 * j < T
        · go_wp2
          go_loop [12, 13] (fun x i => ∃ k m : Nat, k ≤ 8 ∧ i = .int .i64 ((k : Int) - 1) ∧ x = .int .u8 (m : Int) ∧ Hid (m = V.pack (fun i => g (8 * j + k + i)) (8 - k)) ∧ m < 256) (fun _ i => (intOf i + 1).toNat)
          case atStart => exact ⟨8, 0, by omega, rfl, rfl, Lib.hid rfl, by omega⟩
          case round =>
            obtain ⟨k, m, hk, rfl, rfl, HM, hm8⟩ := hrel
            by_cases hk0 : 0 < k
            · obtain ⟨p, rfl⟩ : ∃ p, k = p + 1 := ⟨k - 1, by omega⟩
              have hm7 : m < 128 := by
                rw [HM.out]
                exact Nat.lt_of_lt_of_le (V.pack_lt _ _) (Nat.pow_le_pow_right (by decide) (by omega : 8 - (p + 1) ≤ 7))
              have HQ := Lib.hid (show V.pack (fun i => g (8 * j + p + i)) (8 - p) = (g (8 * j + p)).toNat + 2 * m by
                rw [show 8 - p = (8 - (p + 1)) + 1 by omega, V.pack_top g _ (8 * j + p), HM.out, show 8 * j + p + 1 = 8 * j + (p + 1) by omega])
              rw [show ((p + 1 : Nat) : Int) - 1 = (p : Int) by omega]
              by_cases ht : 8 * j + p < T
              · obtain ⟨b, hb⟩ : ∃ b, b = (g (8 * j + p)).toNat := ⟨_, rfl⟩
                have hbl : b < 2 := by rw [hb]; cases g (8 * j + p) <;> decide
                have hrd6 : rd (rowl (V.bitv (val xs) s) T) ((8 * j + p : Nat) : Int) = (b : Int) := by
                  rw [rowl_rd _ _ _ ht, ← HG1.out _ ht, hb]
                obtain ⟨ad6, rfl, cx6⟩ := (R6.out.below HB3.out).at_ ((8 * j + p : Nat) : Int) (by omega) (by omega)
                rw [hrd6, Int.toNat_natCast] at cx6
                have HQ2 := Lib.hid (show 2 * m + b = V.pack (fun i => g (8 * j + p + i)) (8 - p) by rw [HQ.out, ← hb]; omega)
                clear hb hrd6
                go_wp2
                go_round
                case rel => exact ⟨p, 2 * m + b, by omega, by go_num, by go_num, HQ2, by omega⟩
                case measure => first | (simp [intOf]; done) | (simp [intOf]; omega)
              · have HQ2 := Lib.hid (show 2 * m = V.pack (fun i => g (8 * j + p + i)) (8 - p) by rw [HQ.out, HG2.out _ ht]; simp)
                go_wp2
                go_round
                case rel => exact ⟨p, 2 * m, by omega, by go_num, by go_num, HQ2, by omega⟩
                case measure => first | (simp [intOf]; done) | (simp [intOf]; omega)
            · obtain rfl : k = 0 := by omega
              have HX := Lib.hid (show V.bytes g j ++ [(m : Int)] = V.bytes g (j + 1) by
                rw [HM.out]; simp [V.bytes, List.range_succ, V.byt8])
              have HL5 := Lib.hid (show (((V.bytes g j).length + 1) * 1 ≤ 140737488355328) by rw [V.bytes_length]; omega)
              have HO5 : Hid (wr.ownsRow w2.heap.size 5 1 _ (V.bytes g j).length (nums .u8 (V.bytes g j))) := Lib.hid (by rw [V.bytes_length]; exact HO3.out)
              go_wp2_with (first
                | (at_builtin; go_loud (refine print_append_num (w0 := w2) w2.heap.size rfl (.tmp 70) (.tmp 72) 22 5 .u8 1 rfl Try.underlying22 S.info_u8 (by decide) _ (V.bytes g j) ((m : Int)) rfl rfl HO5.out HB3.out HB3.out.size HL5.out ?_; intro v1 w5 ho5 hb5 hg5 hat5; rw [HX.out, V.bytes_length] at ho5; have B5 := Lib.hid hb5; have O5 := Lib.hid ho5; clear ho5 hb5 hg5 hat5)))
              go_roundw
              case rel => exact ⟨j + 1, by omega, by go_num, O5, B5⟩
              case measure => simp [intOf]; omega
        · have HF := Lib.hid (show (xs.length * s + 7) / 8 = j by rw [← HT.out]; omega)
          go_wp2
          go_ret2
          exact ⟨.inr ⟨HV.out, _, rfl, by rw [HF.out, ← HG.out]; exact own_lower HO3.out HB.out.size⟩, below_ext HB.out HB3.out⟩
end Go.Proofs.Ytdchcggllcgokaa.U

namespace Go.Proofs.Ytdchcggllcgokaa.U
open Go.RowKit Go.Proofs.Ytdchcggllcgokaa.L Go.Proofs.YtdchcggllcgokaaW.PrintWords
set_option linter.unusedVariables false
set_option linter.unusedSimpArgs false

/-- the i-th number of width s of bytes v -/
def item (v : Nat → Nat) (s i : Nat) : Nat := V.pack (fun k => V.bitv v 8 (i * s + k)) s
def items (v : Nat → Nat) (s m : Nat) : List Int := (List.range m).map fun i => (item v s i : Int)
theorem items_length (v : Nat → Nat) (s m : Nat) : (items v s m).length = m := by simp [items]
theorem item_lt (v : Nat → Nat) (s i : Nat) : item v s i < 2 ^ s := V.pack_lt _ _
theorem item_lt8 (v : Nat → Nat) (s i : Nat) (h : s ≤ 8) : item v s i < 256 := Nat.lt_of_lt_of_le (item_lt v s i) (Nat.pow_le_pow_right (by decide) h)
theorem bitv8 (v : Nat → Nat) (j p k : Nat) (h : p + k < 8) : V.bitv v 8 (8 * j + p + k) = (v j).testBit (p + k) := by
  rw [V.bitv, show (8 * j + p + k) / 8 = j by omega, show (8 * j + p + k) % 8 = p + k by omega]
/-- the two bytes, shifted and cut -/
theorem item_two (v : Nat → Nat) (hv : ∀ i, v i < 256) (s i j p : Nat) (hj : j = i * s / 8) (hp : p = i * s % 8) (hs : s ≤ 8) (h : 8 < p + s) :
    ((v j ||| v (j + 1) * 256) / 2 ^ p) &&& (2 ^ s - 1) = item v s i := by
  have e : i * s = 8 * j + p := by omega
  have hp8 : p < 8 := by omega
  apply Nat.eq_of_testBit_eq
  intro k
  rw [item, V.testBit_pack, Nat.and_two_pow_sub_one_eq_mod, Nat.testBit_mod_two_pow, Nat.testBit_div_two_pow, Nat.testBit_or, show (256 : Nat) = 2 ^ 8 from rfl, Nat.testBit_mul_two_pow, e]
  by_cases hk : k < s
  · simp only [hk, decide_true, Bool.true_and]
    by_cases h8 : p + k < 8
    · rw [bitv8 v j p k h8, Nat.add_comm k p]
      simp [show ¬ 8 ≤ p + k by omega]
    · rw [V.bitv, show (8 * j + p + k) / 8 = j + 1 by omega, show (8 * j + p + k) % 8 = p + k - 8 by omega, Nat.add_comm k p]
      have hvp : v j < 2 ^ (p + k) := Nat.lt_of_lt_of_le (hv j) (show 2 ^ 8 ≤ 2 ^ (p + k) from Nat.pow_le_pow_right (by decide) (by omega))
      rw [Nat.testBit_lt_two_pow hvp]
      simp [show 8 ≤ p + k by omega]
  · simp [hk]
theorem item_one (v : Nat → Nat) (hv : ∀ i, v i < 256) (s i j p : Nat) (hj : j = i * s / 8) (hp : p = i * s % 8) (h : p + s ≤ 8) :
    (v j / 2 ^ p) &&& (2 ^ s - 1) = item v s i := by
  have e : i * s = 8 * j + p := by omega
  apply Nat.eq_of_testBit_eq
  intro k
  rw [item, V.testBit_pack, Nat.and_two_pow_sub_one_eq_mod, Nat.testBit_mod_two_pow, Nat.testBit_div_two_pow, e]
  by_cases hk : k < s
  · simp only [hk, decide_true, Bool.true_and]
    rw [bitv8 v j p k (by omega), Nat.add_comm k p]
  · simp [hk]
/-- what was laid is read -/
theorem item_bytes (v w : Nat → Nat) (s n m i : Nat) (hs : 0 < s) (hv : ∀ i, i < n → v i < 2 ^ s) (hm : n * s ≤ 8 * m) (hw : ∀ j, j < m → w j = V.byt8 (V.part v s n) j) (hi : i < n) : item w s i = v i := by
  rw [← V.pack_self (hv i hi), item]
  apply V.pack_congr
  intro k hk
  have h1 : i * s + k < n * s := Nat.lt_of_lt_of_le (by rw [Nat.succ_mul]; omega) (Nat.mul_le_mul_right s hi)
  have h2 : (i * s + k) / 8 < m := by omega
  rw [V.bitv, hw _ h2, V.byt8, V.testBit_pack, show 8 * ((i * s + k) / 8) + (i * s + k) % 8 = i * s + k by omega]
  simp only [show (i * s + k) % 8 < 8 by omega, decide_true, Bool.true_and, V.part, h1]
  rw [V.bitv, show (i * s + k) / s = i by rw [Nat.mul_comm, Nat.mul_add_div (by omega), Nat.div_eq_of_lt hk, Nat.add_zero], show (i * s + k) % s = k by rw [Nat.mul_comm, Nat.mul_add_mod, Nat.mod_eq_of_lt hk]]
end Go.Proofs.Ytdchcggllcgokaa.U

namespace Go.Proofs.Ytdchcggllcgokaa.U
open Go.RowKit Go.Proofs.Ytdchcggllcgokaa.L Go.Proofs.YtdchcggllcgokaaW.PrintWords
set_option linter.unusedVariables false
set_option linter.unusedSimpArgs false

theorem u16_or (a b : Nat) (ha : a < 65536) (hb : b < 65536) : bits .or .u16 (a : Int) (b : Int) = ((a ||| b : Nat) : Int) := by
  show IntKind.u16.wrap ((BitVec.ofInt 16 (a : Int) ||| BitVec.ofInt 16 (b : Int)).toNat : Int) = _
  rw [BitVec.ofInt_natCast, BitVec.ofInt_natCast, BitVec.toNat_or, BitVec.toNat_ofNat, BitVec.toNat_ofNat, Nat.mod_eq_of_lt ha, Nat.mod_eq_of_lt hb]
  have h := Nat.or_lt_two_pow (n := 16) ha hb
  exact IntWalk.u16_in _ (by omega)
theorem u16_and (a b : Nat) (ha : a < 65536) (hb : b < 65536) : bits .and .u16 (a : Int) (b : Int) = ((a &&& b : Nat) : Int) := by
  show IntKind.u16.wrap ((BitVec.ofInt 16 (a : Int) &&& BitVec.ofInt 16 (b : Int)).toNat : Int) = _
  rw [BitVec.ofInt_natCast, BitVec.ofInt_natCast, BitVec.toNat_and, BitVec.toNat_ofNat, BitVec.toNat_ofNat, Nat.mod_eq_of_lt ha, Nat.mod_eq_of_lt hb]
  have h : a &&& b ≤ a := Nat.and_le_left
  exact IntWalk.u16_in _ (by omega)
def imid (v : Nat → Nat) (s m q : Nat) : List Int := ((List.range q).map fun i => (item v s i : Int)) ++ List.replicate (m - q) 0
theorem imid_set (v : Nat → Nat) (s m q : Nat) (h : q < m) : (imid v s m q).set q (item v s q : Int) = imid v s m (q + 1) := by
  unfold imid
  rw [show m - q = (m - (q + 1)) + 1 by omega, List.replicate_succ, List.set_append_right _ _ (by simp), List.length_map, List.length_range, Nat.sub_self, List.set_cons_zero, List.range_succ, List.map_append]
  simp
theorem imid_end (v : Nat → Nat) (s m : Nat) : imid v s m m = items v s m := by simp [imid, items]
set_option maxRecDepth 100000 in
set_option maxHeartbeats 1000000 in
theorem Unbits_ok (A : Option Addr) (cap : Nat) (xs : List Int) (hw : ∀ x ∈ xs, (Lit.int .u8 x).wf = true) (s m : Nat) (h1 : 1 ≤ s) (h2 : s ≤ 8) (hm : m ≤ 1048576) (hsh : m * s ≤ 8 * xs.length) (w : World) (hr : ReadsInt w .u8 A xs.length xs) :
    Calls Try.prog 36 #[.slice A xs.length cap, .int .i64 (s : Int), .int .i64 (m : Int)] w fun e w' => ∃ g, e = .returned (.tuple #[.slice (some ⟨g, 0, none⟩) m m, .int .i64 0]) ∧ w'.ownsRow w.heap.size 5 1 (.slice (some ⟨g, 0, none⟩) m m) m (nums .u8 (items (val xs) s m)) ∧ Below w.heap.size w w' := by
  have HR := Lib.hid hr
  have hlen := hr.2.1
  have P1 : Hid (∀ w, Calls Try.prog 116 #[.int .i64 (s : Int)] w fun e w' => e = .returned (.bool true) ∧ w = w') := Lib.hid fun w => by
    have h := wide_any (s : Int) (by omega) w
    rw [decide_eq_true (by omega : 1 ≤ (s : Int) ∧ (s : Int) ≤ 8)] at h
    exact h
  obtain ⟨L, hL⟩ : ∃ L, L = m * s := ⟨_, rfl⟩
  have hL1 : (m : Int) * (s : Int) = (L : Int) := by rw [hL]; exact (Int.natCast_mul _ _).symm
  have hL2 : L ≤ 8388608 := by rw [hL]; exact Nat.mul_le_mul hm h2
  rw [← hL] at hsh
  have HL := Lib.hid hL
  have hmk : ∀ W : World, (Instr.makeSlice 22 (.int .i64 (m : Int)) (.int .i64 (m : Int))).run Try.prog W = .ok (.slice (some ⟨W.heap.size, 0, none⟩) m m) (W.alloc (.cells (madeCells #[.int .u8 0] m) 5)) := fun W => run_make_row' (P := Try.prog) 22 5 (.int .u8 0) 1 Try.underlying22 S.info_u8 rfl .i64 .i64 m (by omega) (by omega) W
  clear hr hL
  go_enter Try.func36, Try.ntmps36
  go_wp2_with (first
    | (go_at_call 116; refine (P1.out _).mono ?_; rintro e w1 ⟨rfl, rfl⟩))
  clear hL1 hmk
  go_loopw [38] (fun i wr => ∃ q : Nat, q ≤ m ∧ i = .int .i64 (q : Int) ∧ Hid (wr.ownsRow w.heap.size 5 1 (.slice (some ⟨w.heap.size, 0, none⟩) m m) m (nums .u8 (imid (val xs) s m q))) ∧ Hid (Below w.heap.size w wr)) (fun i _ => m - (intOf i).toNat)
  case atStart => exact ⟨0, Nat.zero_le _, rfl, Lib.hid (by simpa [imid] using own_made w w.heap.size 5 .u8 m (Nat.le_refl _) (by omega)), Lib.hid (below_alloc (Below.refl _ _) _)⟩
  case round =>
    obtain ⟨q, hq, rfl, HO, HB⟩ := hrel
    by_cases hlt : q < m
    · obtain ⟨a, ha⟩ : ∃ a, a = q * s := ⟨_, rfl⟩
      have ha1 : (q : Int) * (s : Int) = (a : Int) := by rw [ha]; exact (Int.natCast_mul _ _).symm
      have ha2 : a + s ≤ L := by
        rw [HL.out, ha, ← Nat.succ_mul]; exact Nat.mul_le_mul_right s hlt
      obtain ⟨j, hj⟩ : ∃ j, j = a / 8 := ⟨_, rfl⟩
      obtain ⟨p, hp⟩ : ∃ p, p = a % 8 := ⟨_, rfl⟩
      have hj1 : (a : Int) / 8 = (j : Int) := by omega
      have hp1 : (a : Int) % 8 = (p : Int) := by omega
      have hp8 : p < 8 := by omega
      have hjl : j < xs.length := by omega
      obtain ⟨b, hb⟩ : ∃ b, b = val xs j := ⟨_, rfl⟩
      obtain ⟨hrd, hb8⟩ := val_rd hw j
      rw [← hb] at hrd hb8
      obtain ⟨ad, rfl, cx⟩ := (HR.out.below HB.out).at_ (j : Int) (by omega) (by omega)
      rw [hrd, Int.toNat_natCast] at cx
      have HA := Lib.hid ha
      have HJ := Lib.hid hj
      have HP := Lib.hid hp
      have HBb := Lib.hid hb
      have hajp : a = 8 * j + p := by omega
      have HAJ := Lib.hid hajp
      obtain ⟨o1, o2⟩ := own_at' HO.out q hlt
      clear ha hj hp hb hrd hajp
      by_cases hov : 8 < p + s
      · have hjl2 : j + 1 < xs.length := by have := HAJ.out; omega
        obtain ⟨c, hc⟩ : ∃ c, c = val xs (j + 1) := ⟨_, rfl⟩
        obtain ⟨hrd2, hc8⟩ := val_rd hw (j + 1)
        rw [← hc] at hrd2 hc8
        obtain ⟨ad2, e2, cx2⟩ := (HR.out.below HB.out).at_ ((j + 1 : Nat) : Int) (by omega) (by omega)
        injection e2 with e2
        subst e2
        rw [hrd2, Int.toNat_natCast] at cx2
        obtain ⟨N, hN⟩ : ∃ N, N = b ||| c * 256 := ⟨_, rfl⟩
        have hNl : N < 65536 := by rw [hN]; exact Nat.or_lt_two_pow (n := 16) (by omega) (by omega)
        have e1 : bits .or .u16 (b : Int) ((c : Int) * 256) = (N : Int) := by
          rw [hN]; exact u16_or b (c * 256) (by omega) (by omega)
        have HI := Lib.hid (show (N / 2 ^ p) &&& (2 ^ s - 1) = item (val xs) s q by
          rw [hN, HBb.out, hc]; exact item_two (val xs) (fun i => (val_rd hw i).2) s q j p (by rw [HJ.out, HA.out]) (by rw [HP.out, HA.out]) h2 hov)
        have i4 : (0 : Int) ≤ (j : Int) + 1 := by omega
        have i5 : (j : Int) + 1 < (xs.length : Int) := by omega
        have i6 : ((j : Int) + 1).toNat = j + 1 := by omega
        have cx3 : wr.cell? ⟨ad.block, ad.off + (j + 1), none⟩ = some (.int .u8 (c : Int)) := by rw [← cx2]; simp [Addr.add]
        clear hN hc hrd2 cx2
        obtain ⟨z, hz⟩ : ∃ z, z = N / 2 ^ p := ⟨_, rfl⟩
        have z1 : (N : Int) / 2 ^ p = (z : Int) := by rw [hz]; exact (Int.natCast_ediv _ _).symm
        have z2 : (N : Int) / 2 ^ (min p 16) = (z : Int) := by rw [Nat.min_eq_left (by omega)]; exact z1
        have zl : z < 65536 := by
          have : z ≤ N := by rw [hz]; exact Nat.div_le_self _ _
          omega
        obtain ⟨t, ht⟩ : ∃ t, t = 2 ^ s := ⟨_, rfl⟩
        have ht1 : (2 : Int) ^ s = (t : Int) := by
          rw [ht]; show ((2 : Nat) : Int) ^ s = _
          rw [← Int.natCast_pow]
        have htl : 1 ≤ t ∧ t ≤ 256 := by
          rw [ht]; exact ⟨Nat.pow_pos (by decide), Nat.pow_le_pow_right (by decide) h2⟩
        obtain ⟨y, hy⟩ : ∃ y, y = z &&& (t - 1) := ⟨_, rfl⟩
        have hyl : y < 256 := by
          have h : y ≤ t - 1 := by rw [hy]; exact Nat.and_le_right
          omega
        have y1 : bits .and .u16 (z : Int) ((t : Int) - 1) = (y : Int) := by
          rw [hy, ← u16_and z (t - 1) zl (by omega), show ((t - 1 : Nat) : Int) = (t : Int) - 1 by omega]
        have HYI := Lib.hid (show (y : Int) = (item (val xs) s q : Int) by rw [← HI.out, hy, hz, ht])
        have f3 : (a : Int).tmod 8 = (p : Int) := by rw [Int.tmod_eq_emod_of_nonneg (by omega)]; exact hp1
        have f4 : IntKind.u16.wrap (t : Int) = (t : Int) := IntWalk.u16_in _ (by omega)
        have f5 : IntKind.u16.wrap ((t : Int) - 1) = (t : Int) - 1 := IntWalk.u16_in _ (by omega)
        have f6 : IntKind.u8.wrap (y : Int) = (y : Int) := IntWalk.u8_in _ (by omega)
        have f7 : IntKind.u16.wrap (1 * (t : Int)) = (t : Int) := by rw [Int.one_mul]; exact f4
        clear hz ht hy
        go_wp2
        refine wp_region_still_tail 12 (by kernel_rfl) (by kernel_rfl) ?_
        simp only [List.take_succ_cons, List.take_zero, List.drop_succ_cons, List.drop_zero]
        repeat still_step
        refine wpStill_nil ?_
        have p2 : wr.drew.frozen? ⟨w.heap.size, q, none⟩ = false := o2
        have p1 : wr.drew.cell? ⟨w.heap.size, q, none⟩ = some (.int .u8 (rd (imid (val xs) s m q) (q : Int))) := o1
        have HO4 : Hid (wr.drew.ownsRow w.heap.size 5 1 (.slice (some ⟨w.heap.size, 0, none⟩) m m) m (nums .u8 (imid (val xs) s m q))) := Lib.hid (own_drew HO.out)
        have HB4 : Hid (Below w.heap.size w wr.drew) := Lib.hid (below_drewN HB.out 1)
        have HO6 : Hid ((wr.drew.setCell ⟨w.heap.size, q, none⟩ (.int .u8 (y : Int))).ownsRow w.heap.size 5 1 (.slice (some ⟨w.heap.size, 0, none⟩) m m) m (nums .u8 (imid (val xs) s m (q + 1)))) := Lib.hid (by
          rw [HYI.out]
          have h := (own_store HO4.out (q : Int) (item (val xs) s q : Int)).1
          rw [Int.toNat_natCast, imid_set _ _ _ _ hlt] at h
          exact h)
        have HB6 := Lib.hid (HB4.out.setCell (p := ⟨w.heap.size, q, none⟩) (by simp) (.int .u8 (y : Int)))
        clear HO4 HB4 HO HB o1 o2
        change wpList _ _ _ _ _ wr.drew
        generalize wr.drew = w3 at p1 p2 HO6 HB6 ⊢
        go_wp2
        go_roundw
        case rel => exact ⟨q + 1, by omega, by go_num, HO6, HB6⟩
        case measure => simp [intOf]; omega
      · obtain ⟨N, hN⟩ : ∃ N, N = b := ⟨_, rfl⟩
        have HI := Lib.hid (show (N / 2 ^ p) &&& (2 ^ s - 1) = item (val xs) s q by
          rw [hN, HBb.out]; exact item_one (val xs) (fun i => (val_rd hw i).2) s q j p (by rw [HJ.out, HA.out]) (by rw [HP.out, HA.out]) (by omega))
        subst hN
        obtain ⟨z, hz⟩ : ∃ z, z = N / 2 ^ p := ⟨_, rfl⟩
        have z1 : (N : Int) / 2 ^ p = (z : Int) := by rw [hz]; exact (Int.natCast_ediv _ _).symm
        have z2 : (N : Int) / 2 ^ (min p 16) = (z : Int) := by rw [Nat.min_eq_left (by omega)]; exact z1
        have zl : z < 65536 := by
          have : z ≤ N := by rw [hz]; exact Nat.div_le_self _ _
          omega
        obtain ⟨t, ht⟩ : ∃ t, t = 2 ^ s := ⟨_, rfl⟩
        have ht1 : (2 : Int) ^ s = (t : Int) := by
          rw [ht]; show ((2 : Nat) : Int) ^ s = _
          rw [← Int.natCast_pow]
        have htl : 1 ≤ t ∧ t ≤ 256 := by
          rw [ht]; exact ⟨Nat.pow_pos (by decide), Nat.pow_le_pow_right (by decide) h2⟩
        obtain ⟨y, hy⟩ : ∃ y, y = z &&& (t - 1) := ⟨_, rfl⟩
        have hyl : y < 256 := by
          have h : y ≤ t - 1 := by rw [hy]; exact Nat.and_le_right
          omega
        have y1 : bits .and .u16 (z : Int) ((t : Int) - 1) = (y : Int) := by
          rw [hy, ← u16_and z (t - 1) zl (by omega), show ((t - 1 : Nat) : Int) = (t : Int) - 1 by omega]
        have HYI := Lib.hid (show (y : Int) = (item (val xs) s q : Int) by rw [← HI.out, hy, hz, ht])
        have f3 : (a : Int).tmod 8 = (p : Int) := by rw [Int.tmod_eq_emod_of_nonneg (by omega)]; exact hp1
        have f4 : IntKind.u16.wrap (t : Int) = (t : Int) := IntWalk.u16_in _ (by omega)
        have f5 : IntKind.u16.wrap ((t : Int) - 1) = (t : Int) - 1 := IntWalk.u16_in _ (by omega)
        have f6 : IntKind.u8.wrap (y : Int) = (y : Int) := IntWalk.u8_in _ (by omega)
        have f7 : IntKind.u16.wrap (1 * (t : Int)) = (t : Int) := by rw [Int.one_mul]; exact f4
        clear hz ht hy
        go_wp2
        refine wp_region_still_tail 12 (by kernel_rfl) (by kernel_rfl) ?_
        simp only [List.take_succ_cons, List.take_zero, List.drop_succ_cons, List.drop_zero]
        repeat still_step
        refine wpStill_nil ?_
        have p2 : wr.drew.frozen? ⟨w.heap.size, q, none⟩ = false := o2
        have p1 : wr.drew.cell? ⟨w.heap.size, q, none⟩ = some (.int .u8 (rd (imid (val xs) s m q) (q : Int))) := o1
        have HO4 : Hid (wr.drew.ownsRow w.heap.size 5 1 (.slice (some ⟨w.heap.size, 0, none⟩) m m) m (nums .u8 (imid (val xs) s m q))) := Lib.hid (own_drew HO.out)
        have HB4 : Hid (Below w.heap.size w wr.drew) := Lib.hid (below_drewN HB.out 1)
        have HO6 : Hid ((wr.drew.setCell ⟨w.heap.size, q, none⟩ (.int .u8 (y : Int))).ownsRow w.heap.size 5 1 (.slice (some ⟨w.heap.size, 0, none⟩) m m) m (nums .u8 (imid (val xs) s m (q + 1)))) := Lib.hid (by
          rw [HYI.out]
          have h := (own_store HO4.out (q : Int) (item (val xs) s q : Int)).1
          rw [Int.toNat_natCast, imid_set _ _ _ _ hlt] at h
          exact h)
        have HB6 := Lib.hid (HB4.out.setCell (p := ⟨w.heap.size, q, none⟩) (by simp) (.int .u8 (y : Int)))
        clear HO4 HB4 HO HB o1 o2
        change wpList _ _ _ _ _ wr.drew
        generalize wr.drew = w3 at p1 p2 HO6 HB6 ⊢
        go_wp2
        go_roundw
        case rel => exact ⟨q + 1, by omega, by go_num, HO6, HB6⟩
        case measure => simp [intOf]; omega
    · obtain rfl : q = m := by omega
      go_wp2
      go_ret2
      exact ⟨_, rfl, by rw [← imid_end]; exact HO.out, HB.out⟩
end Go.Proofs.Ytdchcggllcgokaa.U

namespace Go.Proofs.Ytdchcggllcgokaa.U
open Go.RowKit Go.Proofs.Ytdchcggllcgokaa.L Go.Proofs.YtdchcggllcgokaaW.PrintWords
set_option linter.unusedVariables false
set_option linter.unusedSimpArgs false

theorem Unbits_bad (A : Option Addr) (cap l : Nat) (s m : Int) (hs : -9223372036854775808 ≤ s ∧ s ≤ 9223372036854775807) (hm : -9223372036854775808 ≤ m ∧ m ≤ 9223372036854775807) (h : s < 1 ∨ 8 < s ∨ m < 0 ∨ 1048576 < m) (w : World) :
    Calls Try.prog 36 #[.slice A l cap, .int .i64 s, .int .i64 m] w fun e w' => e = .returned (.tuple #[.slice none 0 0, .int .i64 2]) ∧ w = w' := by
  have P0 := Lib.hid (fun w => wide_any s hs w)
  obtain ⟨s1, s2⟩ := hs
  obtain ⟨m1, m2⟩ := hm
  by_cases hb : 1 ≤ s ∧ s ≤ 8
  · have P1 : Hid (∀ w, Calls Try.prog 116 #[.int .i64 s] w fun e w' => e = .returned (.bool true) ∧ w = w') := Lib.hid (fun w => by have h := P0.out w; rw [decide_eq_true hb] at h; exact h)
    rcases (by omega : m < 0 ∨ (0 ≤ m ∧ 1048576 < m)) with g | ⟨g, g'⟩
    all_goals
      clear h hb
      go_enter Try.func36, Try.ntmps36
      go_wp2_with (first
        | (go_at_call 116; refine (P1.out _).mono ?_; rintro e w1 ⟨rfl, rfl⟩))
      go_ret2
      exact ⟨rfl, rfl⟩
  · have P1 : Hid (∀ w, Calls Try.prog 116 #[.int .i64 s] w fun e w' => e = .returned (.bool false) ∧ w = w') := Lib.hid (fun w => by have h := P0.out w; rw [decide_eq_false hb] at h; exact h)
    clear h hb
    go_enter Try.func36, Try.ntmps36
    go_wp2_with (first
      | (go_at_call 116; refine (P1.out _).mono ?_; rintro e w1 ⟨rfl, rfl⟩))
    go_ret2
    exact ⟨rfl, rfl⟩
theorem Unbits_short (A : Option Addr) (cap l : Nat) (s m : Nat) (h1 : 1 ≤ s) (h2 : s ≤ 8) (hm : m ≤ 1048576) (hl : l ≤ 9223372036854775807) (h : 8 * l < m * s) (w : World) :
    Calls Try.prog 36 #[.slice A l cap, .int .i64 (s : Int), .int .i64 (m : Int)] w fun e w' => e = .returned (.tuple #[.slice none 0 0, .int .i64 4]) ∧ w = w' := by
  have P1 : Hid (∀ w, Calls Try.prog 116 #[.int .i64 (s : Int)] w fun e w' => e = .returned (.bool true) ∧ w = w') := Lib.hid fun w => by
    have h := wide_any (s : Int) (by omega) w
    rw [decide_eq_true (by omega : 1 ≤ (s : Int) ∧ (s : Int) ≤ 8)] at h
    exact h
  obtain ⟨L, hL⟩ : ∃ L, L = m * s := ⟨_, rfl⟩
  have hL1 : (m : Int) * (s : Int) = (L : Int) := by rw [hL]; exact (Int.natCast_mul _ _).symm
  have hL2 : L ≤ 8388608 := by rw [hL]; exact Nat.mul_le_mul hm h2
  rw [← hL] at h
  clear hL
  have h9 : (l : Int) < ((L : Int) + 8 - 1) / 8 := by omega
  go_enter Try.func36, Try.ntmps36
  go_wp2_with (first
    | (go_at_call 116; refine (P1.out _).mono ?_; rintro e w1 ⟨rfl, rfl⟩))
  go_ret2
  exact ⟨rfl, rfl⟩
theorem rUnbits_bad (A : Option Addr) (cap l : Nat) (s m : Int) (hs : -9223372036854775808 ≤ s ∧ s ≤ 9223372036854775807) (hm : -9223372036854775808 ≤ m ∧ m ≤ 9223372036854775807) (h : s < 1 ∨ 8 < s ∨ m < 0 ∨ 1048576 < m) (w : World) :
    Calls Try.prog 37 #[.slice A l cap, .int .i64 s, .int .i64 m] w fun e w' => e = .returned (.tuple #[.slice none 0 0, .int .i64 2]) ∧ w = w' := by
  obtain ⟨s1, s2⟩ := hs
  obtain ⟨m1, m2⟩ := hm
  rcases (by omega : s < 1 ∨ (1 ≤ s ∧ 8 < s) ∨ (1 ≤ s ∧ s ≤ 8 ∧ m < 0) ∨ (1 ≤ s ∧ s ≤ 8 ∧ 0 ≤ m ∧ 1048576 < m)) with g1 | ⟨g1, g2⟩ | ⟨g1, g2, g3⟩ | ⟨g1, g2, g3, g4⟩
  all_goals
    clear h
    go_enter Try.func37, Try.ntmps37
    go_wp2
    go_ret2
    exact ⟨rfl, rfl⟩
theorem rUnbits_short (A : Option Addr) (cap l : Nat) (s m : Nat) (h1 : 1 ≤ s) (h2 : s ≤ 8) (hm : m ≤ 1048576) (hl : l ≤ 140737488355328) (h : 8 * l < m * s) (w : World) :
    Calls Try.prog 37 #[.slice A l cap, .int .i64 (s : Int), .int .i64 (m : Int)] w fun e w' => e = .returned (.tuple #[.slice none 0 0, .int .i64 4]) ∧ w = w' := by
  obtain ⟨L, hL⟩ : ∃ L, L = m * s := ⟨_, rfl⟩
  have hL1 : (s : Int) * (m : Int) = (L : Int) := by rw [hL, Nat.mul_comm]; exact (Int.natCast_mul _ _).symm
  have hL2 : L ≤ 8388608 := by rw [hL]; exact Nat.mul_le_mul hm h2
  rw [← hL] at h
  clear hL
  go_enter Try.func37, Try.ntmps37
  go_wp2
  go_ret2
  exact ⟨rfl, rfl⟩
end Go.Proofs.Ytdchcggllcgokaa.U

namespace Go.Proofs.Ytdchcggllcgokaa.U
open Go.RowKit Go.Proofs.Ytdchcggllcgokaa.L Go.Proofs.YtdchcggllcgokaaW.PrintWords
set_option linter.unusedVariables false
set_option linter.unusedSimpArgs false

theorem items_next (v : Nat → Nat) (s q : Nat) (n : Nat) (h : n = item v s q) : items v s q ++ [(n : Int)] = items v s (q + 1) := by
  subst h; simp [items, List.range_succ]
theorem bit_val (v : Nat → Nat) (a j p : Nat) (hj : j = a / 8) (hp : p = a % 8) : (V.bitv v 8 a).toNat = v j / 2 ^ p % 2 := by
  rw [V.bitv, ← hj, ← hp, Nat.testBit_eq_decide_div_mod_eq]
  by_cases h : v j / 2 ^ p % 2 = 1
  · simp [h]
  · have : v j / 2 ^ p % 2 = 0 := by omega
    simp [this]
set_option maxRecDepth 100000 in
set_option maxHeartbeats 1000000 in
theorem rUnbits_ok (A : Option Addr) (cap : Nat) (xs : List Int) (hw : ∀ x ∈ xs, (Lit.int .u8 x).wf = true) (s m : Nat) (h1 : 1 ≤ s) (h2 : s ≤ 8) (hm : m ≤ 1048576) (hsh : m * s ≤ 8 * xs.length) (hlen : xs.length ≤ 140737488355328) (w : World) (hr : ReadsInt w .u8 A xs.length xs) :
    Calls Try.prog 37 #[.slice A xs.length cap, .int .i64 (s : Int), .int .i64 (m : Int)] w fun e w' => ∃ v, e = .returned (.tuple #[v, .int .i64 0]) ∧ w'.ownsRow w.heap.size 5 1 v m (nums .u8 (items (val xs) s m)) ∧ Below w.heap.size w w' := by
  have HR := Lib.hid hr
  obtain ⟨L, hL⟩ : ∃ L, L = m * s := ⟨_, rfl⟩
  have hL1 : (s : Int) * (m : Int) = (L : Int) := by rw [hL, Nat.mul_comm]; exact (Int.natCast_mul _ _).symm
  have hL2 : L ≤ 8388608 := by rw [hL]; exact Nat.mul_le_mul hm h2
  rw [← hL] at hsh
  have HL := Lib.hid hL
  clear hr hL
  go_enter Try.func37, Try.ntmps37
  go_wp2
  clear hL1
  go_loopw [8, 9] (fun v i wr => ∃ q : Nat, q ≤ m ∧ i = .int .i64 (q : Int) ∧ Hid (wr.ownsRow w.heap.size 5 1 v q (nums .u8 (items (val xs) s q))) ∧ Hid (Below w.heap.size w wr)) (fun _ i _ => m - (intOf i).toNat)
  case atStart => exact ⟨0, Nat.zero_le _, rfl, Lib.hid (own_nil w w.heap.size 5 1), Lib.hid (Below.refl _ _)⟩
  case round =>
    obtain ⟨q, hq, rfl, HO, HB⟩ := hrel
    by_cases hlt : q < m
    · obtain ⟨Q, hQ⟩ : ∃ Q, Q = q * s := ⟨_, rfl⟩
      have hQ1 : (q : Int) * (s : Int) = (Q : Int) := by rw [hQ]; exact (Int.natCast_mul _ _).symm
      have hQ2 : Q + s ≤ L := by
        rw [HL.out, hQ, ← Nat.succ_mul]; exact Nat.mul_le_mul_right s hlt
      have HQ := Lib.hid hQ
      clear hQ
      go_wp2
      go_loop [10, 11] (fun x i => ∃ k n : Nat, k ≤ s ∧ i = .int .i64 ((k : Int) - 1) ∧ x = .int .u8 (n : Int) ∧ Hid (n = V.pack (fun i => V.bitv (val xs) 8 (Q + k + i)) (s - k)) ∧ n < 256) (fun _ i => (intOf i + 1).toNat)
      case atStart => exact ⟨s, 0, Nat.le_refl _, rfl, rfl, Lib.hid (by rw [Nat.sub_self]; rfl), by omega⟩
      case round =>
        obtain ⟨k, n, hk, rfl, rfl, HM, hn8⟩ := hrel
        by_cases hk0 : 0 < k
        · obtain ⟨c, rfl⟩ : ∃ c, k = c + 1 := ⟨k - 1, by omega⟩
          have hn7 : n < 128 := by
            rw [HM.out]
            exact Nat.lt_of_lt_of_le (V.pack_lt _ _) (Nat.pow_le_pow_right (by decide) (by omega : s - (c + 1) ≤ 7))
          have HQ2 := Lib.hid (show V.pack (fun i => V.bitv (val xs) 8 (Q + c + i)) (s - c) = (V.bitv (val xs) 8 (Q + c)).toNat + 2 * n by
            rw [show s - c = (s - (c + 1)) + 1 by omega, V.pack_top (V.bitv (val xs) 8) _ (Q + c), HM.out, show Q + c + 1 = Q + (c + 1) by omega])
          rw [show ((c + 1 : Nat) : Int) - 1 = (c : Int) by omega]
          obtain ⟨j, hj⟩ : ∃ j, j = (Q + c) / 8 := ⟨_, rfl⟩
          obtain ⟨p, hp⟩ : ∃ p, p = (Q + c) % 8 := ⟨_, rfl⟩
          have hj1 : ((Q : Int) + (c : Int)) / 8 = (j : Int) := by omega
          have hp1 : ((Q : Int) + (c : Int)) % 8 = (p : Int) := by omega
          have hp8 : p < 8 := by omega
          have hjl : j < xs.length := by omega
          obtain ⟨b, hb⟩ : ∃ b, b = val xs j := ⟨_, rfl⟩
          obtain ⟨hrd, hb8⟩ := val_rd hw j
          rw [← hb] at hrd hb8
          obtain ⟨ad, rfl, cx⟩ := (HR.out.below HB.out).at_ (j : Int) (by omega) (by omega)
          rw [hrd, Int.toNat_natCast] at cx
          obtain ⟨z, hz⟩ : ∃ z, z = b / 2 ^ p := ⟨_, rfl⟩
          have z1 : (b : Int) / 2 ^ p = (z : Int) := by rw [hz]; exact (Int.natCast_ediv _ _).symm
          have z2 : (b : Int) / 2 ^ (min p 8) = (z : Int) := by rw [Nat.min_eq_left (by omega)]; exact z1
          have zl : z < 256 := by
            have : z ≤ b := by rw [hz]; exact Nat.div_le_self _ _
            omega
          obtain ⟨t, ht⟩ : ∃ t, t = z % 2 := ⟨_, rfl⟩
          have t1 : (z : Int) % 2 = (t : Int) := by rw [ht]; rfl
          have tl : t < 2 := by omega
          have HX := Lib.hid (show 2 * n + t = V.pack (fun i => V.bitv (val xs) 8 (Q + c + i)) (s - c) by
            rw [HQ2.out, bit_val (val xs) (Q + c) j p hj hp, ← hb, ← hz, ← ht]; omega)
          clear hj hp hb hrd hz ht
          go_wp2
          go_round
          case rel => exact ⟨c, 2 * n + t, by omega, by go_num, by go_num, HX, by omega⟩
          case measure => first | (simp [intOf]; done) | (simp [intOf]; omega)
        · obtain rfl : k = 0 := by omega
          have HX := Lib.hid (items_next (val xs) s q n (by rw [HM.out, item, ← HQ.out]; rfl))
          have HL5 := Lib.hid (show (((items (val xs) s q).length + 1) * 1 ≤ 140737488355328) by rw [items_length]; omega)
          have HO5 : Hid (wr.ownsRow w.heap.size 5 1 _ (items (val xs) s q).length (nums .u8 (items (val xs) s q))) := Lib.hid (by rw [items_length]; exact HO.out)
          go_wp2_with (first
            | (at_builtin; go_loud (refine print_append_num (w0 := w) w.heap.size rfl (.tmp 63) (.tmp 65) 22 5 .u8 1 rfl Try.underlying22 S.info_u8 (by decide) _ (items (val xs) s q) ((n : Int)) rfl rfl HO5.out HB.out HB.out.size HL5.out ?_; intro v1 w5 ho5 hb5 hg5 hat5; rw [HX.out, items_length] at ho5; have B5 := Lib.hid hb5; have O5 := Lib.hid ho5; clear ho5 hb5 hg5 hat5)))
          go_roundw
          case rel => exact ⟨q + 1, by omega, by go_num, O5, B5⟩
          case measure => simp [intOf]; omega
    · obtain rfl : q = m := by omega
      go_wp2
      go_ret2
      exact ⟨_, rfl, HO.out, HB.out⟩
end Go.Proofs.Ytdchcggllcgokaa.U
