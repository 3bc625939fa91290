/-
  Chapter 01's functions: each call by one plain function of its arguments. Chapter 01: what is put is got; plain laws. ashlarlaw01.lives; the results of chapter 01 as rows that are read. ashlarlaw01.NumOne, NumNumbers: the walks. ashlarlaw01.NumRow: the walk. ashlarref00.Spoil: all bytes are others, the room behind them, too.
-/
import Derived.Test.YtdchcggllcgokaaSpB
import Derived.Test.YtdchcggllcgokaaSpA
namespace Go.Proofs.Ytdchcggllcgokaa.U
open Go.RowKit Go.Proofs.Ytdchcggllcgokaa.L Go.Proofs.YtdchcggllcgokaaW.PrintWords
set_option linter.unusedVariables false
set_option linter.unusedSimpArgs false

/-- a row of bytes of a call's own -/
def Byts (b : Nat) (W : World) (A : Option Addr) (c : Nat) (ys : List Int) : Prop := W.ownsRow b 5 1 (.slice A ys.length c) ys.length (nums .u8 ys)
theorem Byts.reads {b : Nat} {W : World} {A : Option Addr} {c : Nat} {ys : List Int} (h : Byts b W A c ys) : ReadsInt W .u8 A ys.length ys := own_reads' h
theorem Byts.below {b : Nat} {W W1 : World} {A : Option Addr} {c : Nat} {ys : List Int} (h : Byts b W A c ys) (hb : Below W.heap.size W W1) : Byts b W1 A c ys := pw_own_below h hb
theorem Byts.none_ (b : Nat) (W : World) : Byts b W none 0 [] := own_nil W b _ 1
theorem Byts.le {b : Nat} {W : World} {A : Option Addr} {c : Nat} {ys : List Int} (h : Byts b W A c ys) : ys.length ≤ c := own_le h
theorem Byts.cap {b : Nat} {W : World} {A : Option Addr} {c : Nat} {ys : List Int} (h : Byts b W A c ys) : c ≤ 9223372036854775807 := by
  rcases h.2 with ⟨he, h1⟩ | ⟨g, cap, cur, he, _, _, h1, h2, _⟩
  · injection he with _ _ h3; omega
  · injection he with _ _ h3; simp only [maxLen] at h2; omega
theorem byts_of {b : Nat} {W : World} {v : Value} {n : Nat} {ys : List Int} (ho : W.ownsRow b 5 1 v n (nums .u8 ys)) (hl : ys.length = n) : ∃ A c, v = .slice A ys.length c ∧ Byts b W A c ys := by
  obtain ⟨A, c, rfl⟩ := own_slice ho
  subst hl
  exact ⟨A, c, rfl, ho⟩
theorem drew_below {w w' : World} (h : ∃ j, w' = w.drewN j) : Below w.heap.size w w' := by
  obtain ⟨j, rfl⟩ := h
  exact below_drewN (Below.refl _ _) j

def puts (n : Nat) (s : Int) : List Int × Int := if s < 1 ∨ 8 < s ∨ 256 ^ s.toNat ≤ n then ([], 2) else (putb n s.toNat, 0)
theorem puts_ok {n s : Nat} (h1 : 1 ≤ s) (h2 : s ≤ 8) (h : n < 256 ^ s) : puts n s = (putb n s, 0) := by
  rw [puts, if_neg (by simp; omega)]; simp
theorem puts_bad {n s : Nat} (h : 256 ^ s ≤ n) : puts n s = ([], 2) := by
  rw [puts, if_pos (by simp; omega)]
def PutP (b : Nat) (n : Nat) (s : Int) (e : Ending) (W : World) : Prop := ∃ A c, e = .returned (.tuple #[.slice A (puts n s).1.length c, .int .i64 (puts n s).2]) ∧ Byts b W A c (puts n s).1
theorem Put_all (n : Nat) (hn : n < 18446744073709551616) (s : Int) (hs : -9223372036854775808 ≤ s ∧ s ≤ 9223372036854775807) (w : World) :
    Calls Try.prog 42 #[.int .u64 (n : Int), .int .i64 s] w fun e w' => PutP w.heap.size n s e w' ∧ Below w.heap.size w w' := by
  by_cases h : s < 1 ∨ 8 < s
  · refine (Put_err n hn s hs h w).mono ?_
    rintro e w' ⟨rfl, rfl⟩
    have e1 : puts n s = ([], 2) := if_pos (by omega)
    exact ⟨⟨none, 0, by rw [e1]; rfl, by rw [e1]; exact Byts.none_ _ _⟩, Below.refl _ _⟩
  · obtain ⟨k, rfl⟩ : ∃ k : Nat, s = k := ⟨s.toNat, by omega⟩
    by_cases hk : 256 ^ k ≤ n
    · have hk8 : k < 8 := by
        refine Nat.lt_of_not_le fun h8 => ?_
        have h3 : 256 ^ 8 ≤ 256 ^ k := Nat.pow_le_pow_right (by decide) h8
        omega
      refine (Put_big n hn k (by omega) hk8 hk w).mono ?_
      rintro e w' ⟨rfl, rfl⟩
      exact ⟨⟨none, 0, by rw [puts_bad hk]; rfl, by rw [puts_bad hk]; exact Byts.none_ _ _⟩, Below.refl _ _⟩
    · refine (Put_ok n hn k (by omega) (by omega) (by omega) w).mono ?_
      rintro e w' ⟨g, rfl, ho, hb⟩
      have e1 : puts n k = (putb n k, 0) := puts_ok (by omega) (by omega) (by omega)
      refine ⟨⟨_, _, by rw [e1, putb_length], ?_⟩, hb⟩
      rw [e1, Byts, putb_length]
      exact ho
theorem rPut_all (n : Nat) (hn : n < 18446744073709551616) (s : Int) (hs : -9223372036854775808 ≤ s ∧ s ≤ 9223372036854775807) (w : World) :
    Calls Try.prog 43 #[.int .u64 (n : Int), .int .i64 s] w fun e w' => PutP w.heap.size n s e w' ∧ Below w.heap.size w w' := by
  by_cases h : s < 1 ∨ 8 < s
  · refine (rPut_err n hn s hs h w).mono ?_
    rintro e w' ⟨rfl, rfl⟩
    have e1 : puts n s = ([], 2) := if_pos (by omega)
    exact ⟨⟨none, 0, by rw [e1]; rfl, by rw [e1]; exact Byts.none_ _ _⟩, Below.refl _ _⟩
  · obtain ⟨k, rfl⟩ : ∃ k : Nat, s = k := ⟨s.toNat, by omega⟩
    refine (rPut_any n hn k (by omega) (by omega) w).mono ?_
    rintro e w' ⟨⟨hk, rfl⟩ | ⟨hk, v, rfl, ho⟩, hb⟩
    · exact ⟨⟨none, 0, by rw [puts_bad hk]; rfl, by rw [puts_bad hk]; exact Byts.none_ _ _⟩, hb⟩
    · have e1 : puts n k = (putb n k, 0) := puts_ok (by omega) (by omega) hk
      obtain ⟨A, c, rfl, h1⟩ := byts_of ho (putb_length _ _)
      exact ⟨⟨A, c, by rw [e1], by rw [e1]; exact h1⟩, hb⟩
theorem Get_b (A : Option Addr) (cap : Nat) (xs : List Int) (hw : ∀ x ∈ xs, (Lit.int .u8 x).wf = true) (a s : Int) (ha : -9223372036854775808 ≤ a ∧ a ≤ 9223372036854775807) (hs : -9223372036854775808 ≤ s ∧ s ≤ 9223372036854775807) (hl : xs.length ≤ cap) (hc : cap ≤ 9223372036854775807) (w : World) (hr : ReadsInt w .u8 A xs.length xs) :
    Calls Try.prog 44 #[.slice A xs.length cap, .int .i64 a, .int .i64 s] w fun e w' => e = .returned (.tuple #[.int .u64 ((gets xs a s).1 : Int), .int .i64 (gets xs a s).2]) ∧ Below w.heap.size w w' :=
  (Get_any A cap xs hw a s ha hs hl hc w hr).mono fun _ _ ⟨h1, h2⟩ => ⟨h1, drew_below h2⟩
theorem rGet_b (A : Option Addr) (cap : Nat) (xs : List Int) (hw : ∀ x ∈ xs, (Lit.int .u8 x).wf = true) (a s : Int) (ha : -9223372036854775808 ≤ a ∧ a ≤ 9223372036854775807) (hs : -9223372036854775808 ≤ s ∧ s ≤ 9223372036854775807) (hl : xs.length ≤ cap) (hc : cap ≤ 9223372036854775807) (w : World) (hr : ReadsInt w .u8 A xs.length xs) :
    Calls Try.prog 45 #[.slice A xs.length cap, .int .i64 a, .int .i64 s] w fun e w' => e = .returned (.tuple #[.int .u64 ((gets xs a s).1 : Int), .int .i64 (gets xs a s).2]) ∧ Below w.heap.size w w' :=
  (rGet_any A cap xs hw a s ha hs hl hc w hr).mono fun _ _ ⟨h1, h2⟩ => ⟨h1, drew_below h2⟩

open Classical in
/-- numbers of a width, one behind the other -/
noncomputable def bitss (xs : List Int) (s : Int) : List Int × Int :=
  if s < 1 ∨ 8 < s ∨ ∃ i, i < xs.length ∧ 2 ^ s.toNat ≤ val xs i then ([], 2) else (V.bytes (V.part (val xs) s.toNat xs.length) ((xs.length * s.toNat + 7) / 8), 0)
def BitsP (b : Nat) (xs : List Int) (s : Int) (e : Ending) (W : World) : Prop := ∃ A c, e = .returned (.tuple #[.slice A (bitss xs s).1.length c, .int .i64 (bitss xs s).2]) ∧ Byts b W A c (bitss xs s).1
theorem bits_err {b : Nat} {xs : List Int} {s : Int} {W : World} (h : bitss xs s = ([], 2)) : BitsP b xs s (.returned (.tuple #[.slice none 0 0, .int .i64 2])) W :=
  ⟨none, 0, by rw [h]; rfl, by rw [h]; exact Byts.none_ _ _⟩
theorem bits_fine {b : Nat} {xs : List Int} {s : Nat} {W : World} {v : Value} (h1 : 1 ≤ s) (h2 : s ≤ 8) (h : ∀ i, i < xs.length → val xs i < 2 ^ s) (ho : W.ownsRow b 5 1 v ((xs.length * s + 7) / 8) (nums .u8 (V.bytes (V.part (val xs) s xs.length) ((xs.length * s + 7) / 8)))) :
    BitsP b xs s (.returned (.tuple #[v, .int .i64 0])) W := by
  have e1 : bitss xs s = (V.bytes (V.part (val xs) s xs.length) ((xs.length * s + 7) / 8), 0) := by
    rw [bitss, if_neg]
    · simp
    · rintro (h3 | h3 | ⟨i, hi, h4⟩)
      · omega
      · omega
      · have := h i hi; rw [Int.toNat_natCast] at h4; omega
  obtain ⟨A, c, rfl, h3⟩ := byts_of ho (V.bytes_length _ _)
  exact ⟨A, c, by rw [e1], by rw [e1]; exact h3⟩
theorem bits_two {xs : List Int} {s : Nat} (h : ∃ i, i < xs.length ∧ 2 ^ s ≤ val xs i) : bitss xs s = ([], 2) := by
  rw [bitss, if_pos (.inr (.inr (by rw [Int.toNat_natCast]; exact h)))]
/-- num.Bits's row, with nothing behind it -/
def BitsF (b : Nat) (xs : List Int) (s : Int) (e : Ending) (W : World) : Prop := ∃ A, e = .returned (.tuple #[.slice A (bitss xs s).1.length (bitss xs s).1.length, .int .i64 (bitss xs s).2]) ∧ Byts b W A (bitss xs s).1.length (bitss xs s).1
theorem bits_err' {b : Nat} {xs : List Int} {s : Int} {W : World} (h : bitss xs s = ([], 2)) : BitsF b xs s (.returned (.tuple #[.slice none 0 0, .int .i64 2])) W :=
  ⟨none, by rw [h]; rfl, by rw [h]; exact Byts.none_ _ _⟩
theorem bits_fine' {b : Nat} {xs : List Int} {s m : Nat} {W : World} {A : Option Addr} (hm : m = (xs.length * s + 7) / 8) (h1 : 1 ≤ s) (h2 : s ≤ 8) (h : ∀ i, i < xs.length → val xs i < 2 ^ s) (ho : W.ownsRow b 5 1 (.slice A m m) m (nums .u8 (V.bytes (V.part (val xs) s xs.length) m))) :
    BitsF b xs s (.returned (.tuple #[.slice A m m, .int .i64 0])) W := by
  have e1 : bitss xs s = (V.bytes (V.part (val xs) s xs.length) m, 0) := by
    rw [bitss, if_neg]
    · simp [hm]
    · rintro (h3 | h3 | ⟨i, hi, h4⟩)
      · omega
      · omega
      · have := h i hi; rw [Int.toNat_natCast] at h4; omega
  refine ⟨A, by rw [e1, V.bytes_length], ?_⟩
  rw [e1, Byts, V.bytes_length]
  exact ho
theorem BitsF.p {b : Nat} {xs : List Int} {s : Int} {e : Ending} {W : World} (h : BitsF b xs s e W) : BitsP b xs s e W := by
  obtain ⟨A, h1, h2⟩ := h
  exact ⟨A, _, h1, h2⟩
theorem Bits_full (A : Option Addr) (cap : Nat) (xs : List Int) (hw : ∀ x ∈ xs, (Lit.int .u8 x).wf = true) (s : Int) (hs : -9223372036854775808 ≤ s ∧ s ≤ 9223372036854775807) (hl : xs.length ≤ 1048576) (w : World) (hr : ReadsInt w .u8 A xs.length xs) :
    Calls Try.prog 34 #[.slice A xs.length cap, .int .i64 s] w fun e w' => BitsF w.heap.size xs s e w' ∧ Below w.heap.size w w' := by
  by_cases h : 1 ≤ s ∧ s ≤ 8
  · obtain ⟨k, rfl⟩ : ∃ k : Nat, s = k := ⟨s.toNat, by omega⟩
    refine (Bits_any A cap xs hw k (by omega) (by omega) hl w hr).mono ?_
    rintro e w' ⟨⟨hx, rfl⟩ | ⟨hx, g, rfl, ho⟩, hb⟩
    · exact ⟨bits_err' (bits_two hx), hb⟩
    · exact ⟨bits_fine' rfl (by omega) (by omega) hx ho, hb⟩
  · refine (Bits_width A cap xs.length s hs h w).mono ?_
    rintro e w' ⟨rfl, rfl⟩
    exact ⟨bits_err' (if_pos (by omega)), Below.refl _ _⟩
theorem Bits_all (A : Option Addr) (cap : Nat) (xs : List Int) (hw : ∀ x ∈ xs, (Lit.int .u8 x).wf = true) (s : Int) (hs : -9223372036854775808 ≤ s ∧ s ≤ 9223372036854775807) (hl : xs.length ≤ 1048576) (w : World) (hr : ReadsInt w .u8 A xs.length xs) :
    Calls Try.prog 34 #[.slice A xs.length cap, .int .i64 s] w fun e w' => BitsP w.heap.size xs s e w' ∧ Below w.heap.size w w' := by
  exact (Bits_full A cap xs hw s hs hl w hr).mono fun _ _ ⟨h1, h2⟩ => ⟨h1.p, h2⟩
theorem rBits_all (A : Option Addr) (cap : Nat) (xs : List Int) (hw : ∀ x ∈ xs, (Lit.int .u8 x).wf = true) (s : Int) (hs : -9223372036854775808 ≤ s ∧ s ≤ 9223372036854775807) (hl : xs.length ≤ 1048576) (w : World) (hr : ReadsInt w .u8 A xs.length xs) :
    Calls Try.prog 35 #[.slice A xs.length cap, .int .i64 s] w fun e w' => BitsP w.heap.size xs s e w' ∧ Below w.heap.size w w' := by
  by_cases h : 1 ≤ s ∧ s ≤ 8
  · obtain ⟨k, rfl⟩ : ∃ k : Nat, s = k := ⟨s.toNat, by omega⟩
    refine (rBits_any A cap xs hw k (by omega) (by omega) hl w hr).mono ?_
    rintro e w' ⟨⟨hx, rfl⟩ | ⟨hx, v, rfl, ho⟩, hb⟩
    · exact ⟨bits_err (bits_two hx), hb⟩
    · exact ⟨bits_fine (by omega) (by omega) hx ho, hb⟩
  · refine (rBits_width A cap xs.length s hs h w).mono ?_
    rintro e w' ⟨rfl, rfl⟩
    exact ⟨bits_err (if_pos (by omega)), Below.refl _ _⟩

/-- numbers of a width that are read -/
def unbs (xs : List Int) (s m : Int) : List Int × Int :=
  if s < 1 ∨ 8 < s ∨ m < 0 ∨ 1048576 < m then ([], 2) else if 8 * xs.length < m.toNat * s.toNat then ([], 4) else (items (val xs) s.toNat m.toNat, 0)
def UnbP (b : Nat) (xs : List Int) (s m : Int) (e : Ending) (W : World) : Prop := ∃ A c, e = .returned (.tuple #[.slice A (unbs xs s m).1.length c, .int .i64 (unbs xs s m).2]) ∧ Byts b W A c (unbs xs s m).1
theorem unb_err {b : Nat} {xs : List Int} {s m k : Int} {W : World} (h : unbs xs s m = ([], k)) : UnbP b xs s m (.returned (.tuple #[.slice none 0 0, .int .i64 k])) W :=
  ⟨none, 0, by rw [h]; rfl, by rw [h]; exact Byts.none_ _ _⟩
theorem unbs_short {xs : List Int} {s m : Nat} (h1 : 1 ≤ s) (h2 : s ≤ 8) (hm : m ≤ 1048576) (h : 8 * xs.length < m * s) : unbs xs s m = ([], 4) := by
  rw [unbs, if_neg (by omega), Int.toNat_natCast, Int.toNat_natCast, if_pos h]
theorem unbs_ok {xs : List Int} {s m : Nat} (h1 : 1 ≤ s) (h2 : s ≤ 8) (hm : m ≤ 1048576) (h : m * s ≤ 8 * xs.length) : unbs xs s m = (items (val xs) s m, 0) := by
  rw [unbs, if_neg (by omega), Int.toNat_natCast, Int.toNat_natCast, if_neg (by omega)]
theorem unb_fine {b : Nat} {xs : List Int} {s m : Nat} {W : World} {v : Value} (h : unbs xs s m = (items (val xs) s m, 0)) (ho : W.ownsRow b 5 1 v m (nums .u8 (items (val xs) s m))) :
    UnbP b xs s m (.returned (.tuple #[v, .int .i64 0])) W := by
  obtain ⟨A, c, rfl, h3⟩ := byts_of ho (items_length _ _ _)
  exact ⟨A, c, by rw [h], by rw [h]; exact h3⟩
/-- num.Unbits's row, with nothing behind it -/
def UnbF (b : Nat) (xs : List Int) (s m : Int) (e : Ending) (W : World) : Prop := ∃ A, e = .returned (.tuple #[.slice A (unbs xs s m).1.length (unbs xs s m).1.length, .int .i64 (unbs xs s m).2]) ∧ Byts b W A (unbs xs s m).1.length (unbs xs s m).1
theorem unb_err' {b : Nat} {xs : List Int} {s m k : Int} {W : World} (h : unbs xs s m = ([], k)) : UnbF b xs s m (.returned (.tuple #[.slice none 0 0, .int .i64 k])) W :=
  ⟨none, by rw [h]; rfl, by rw [h]; exact Byts.none_ _ _⟩
theorem unb_fine' {b : Nat} {xs : List Int} {s m : Nat} {W : World} {A : Option Addr} (h : unbs xs s m = (items (val xs) s m, 0)) (ho : W.ownsRow b 5 1 (.slice A m m) m (nums .u8 (items (val xs) s m))) :
    UnbF b xs s m (.returned (.tuple #[.slice A m m, .int .i64 0])) W := by
  refine ⟨A, by rw [h, items_length], ?_⟩
  rw [h, Byts, items_length]
  exact ho
theorem UnbF.p {b : Nat} {xs : List Int} {s m : Int} {e : Ending} {W : World} (h : UnbF b xs s m e W) : UnbP b xs s m e W := by
  obtain ⟨A, h1, h2⟩ := h
  exact ⟨A, _, h1, h2⟩
theorem Unbits_full (A : Option Addr) (cap : Nat) (xs : List Int) (hw : ∀ x ∈ xs, (Lit.int .u8 x).wf = true) (s m : Int) (hs : -9223372036854775808 ≤ s ∧ s ≤ 9223372036854775807) (hm : -9223372036854775808 ≤ m ∧ m ≤ 9223372036854775807) (hl : xs.length ≤ 140737488355328) (w : World) (hr : ReadsInt w .u8 A xs.length xs) :
    Calls Try.prog 36 #[.slice A xs.length cap, .int .i64 s, .int .i64 m] w fun e w' => UnbF w.heap.size xs s m e w' ∧ Below w.heap.size w w' := by
  by_cases h : s < 1 ∨ 8 < s ∨ m < 0 ∨ 1048576 < m
  · refine (Unbits_bad A cap xs.length s m hs hm h w).mono ?_
    rintro e w' ⟨rfl, rfl⟩
    exact ⟨unb_err' (if_pos h), Below.refl _ _⟩
  · obtain ⟨k, rfl⟩ : ∃ k : Nat, s = k := ⟨s.toNat, by omega⟩
    obtain ⟨j, rfl⟩ : ∃ j : Nat, m = j := ⟨m.toNat, by omega⟩
    by_cases h2 : 8 * xs.length < j * k
    · refine (Unbits_short A cap xs.length k j (by omega) (by omega) (by omega) (by omega) h2 w).mono ?_
      rintro e w' ⟨rfl, rfl⟩
      exact ⟨unb_err' (unbs_short (by omega) (by omega) (by omega) h2), Below.refl _ _⟩
    · refine (Unbits_ok A cap xs hw k j (by omega) (by omega) (by omega) (by omega) w hr).mono ?_
      rintro e w' ⟨g, rfl, ho, hb⟩
      exact ⟨unb_fine' (unbs_ok (by omega) (by omega) (by omega) (by omega)) ho, hb⟩
theorem Unbits_all (A : Option Addr) (cap : Nat) (xs : List Int) (hw : ∀ x ∈ xs, (Lit.int .u8 x).wf = true) (s m : Int) (hs : -9223372036854775808 ≤ s ∧ s ≤ 9223372036854775807) (hm : -9223372036854775808 ≤ m ∧ m ≤ 9223372036854775807) (hl : xs.length ≤ 140737488355328) (w : World) (hr : ReadsInt w .u8 A xs.length xs) :
    Calls Try.prog 36 #[.slice A xs.length cap, .int .i64 s, .int .i64 m] w fun e w' => UnbP w.heap.size xs s m e w' ∧ Below w.heap.size w w' := by
  exact (Unbits_full A cap xs hw s m hs hm hl w hr).mono fun _ _ ⟨h1, h2⟩ => ⟨h1.p, h2⟩
theorem rUnbits_all (A : Option Addr) (cap : Nat) (xs : List Int) (hw : ∀ x ∈ xs, (Lit.int .u8 x).wf = true) (s m : Int) (hs : -9223372036854775808 ≤ s ∧ s ≤ 9223372036854775807) (hm : -9223372036854775808 ≤ m ∧ m ≤ 9223372036854775807) (hl : xs.length ≤ 140737488355328) (w : World) (hr : ReadsInt w .u8 A xs.length xs) :
    Calls Try.prog 37 #[.slice A xs.length cap, .int .i64 s, .int .i64 m] w fun e w' => UnbP w.heap.size xs s m e w' ∧ Below w.heap.size w w' := by
  by_cases h : s < 1 ∨ 8 < s ∨ m < 0 ∨ 1048576 < m
  · refine (rUnbits_bad A cap xs.length s m hs hm h w).mono ?_
    rintro e w' ⟨rfl, rfl⟩
    exact ⟨unb_err (if_pos h), Below.refl _ _⟩
  · obtain ⟨k, rfl⟩ : ∃ k : Nat, s = k := ⟨s.toNat, by omega⟩
    obtain ⟨j, rfl⟩ : ∃ j : Nat, m = j := ⟨m.toNat, by omega⟩
    by_cases h2 : 8 * xs.length < j * k
    · refine (rUnbits_short A cap xs.length k j (by omega) (by omega) (by omega) hl h2 w).mono ?_
      rintro e w' ⟨rfl, rfl⟩
      exact ⟨unb_err (unbs_short (by omega) (by omega) (by omega) h2), Below.refl _ _⟩
    · refine (rUnbits_ok A cap xs hw k j (by omega) (by omega) (by omega) (by omega) hl w hr).mono ?_
      rintro e w' ⟨v, rfl, ho, hb⟩
      exact ⟨unb_fine (unbs_ok (by omega) (by omega) (by omega) (by omega)) ho, hb⟩
end Go.Proofs.Ytdchcggllcgokaa.U

namespace Go.Proofs.Ytdchcggllcgokaa.U
open Go.RowKit Go.Proofs.Ytdchcggllcgokaa.L Go.Proofs.YtdchcggllcgokaaW.PrintWords
set_option linter.unusedVariables false
set_option linter.unusedSimpArgs false

theorem vle_congr {f g : Nat → Nat} {k : Nat} (h : ∀ i, i < k → f i = g i) : vle f k = vle g k := by
  induction k with
  | zero => rfl
  | succ k ih => rw [vle, vle, ih (fun i hi => h i (by omega)), h k (by omega)]
theorem vle_byt (n k : Nat) : vle (byt n) k = n % 256 ^ k := by
  induction k with
  | zero => simp [vle, Nat.mod_one]
  | succ k ih => rw [vle, ih, byt, Nat.pow_succ, Nat.mod_mul, Nat.mul_comm (256 ^ k) (n / 256 ^ k % 256)]
theorem rd_append_left {xs ys : List Int} {i : Nat} (h : i < xs.length) : rd (xs ++ ys) (i : Int) = rd xs (i : Int) := by
  simp [rd, List.getD_eq_getElem?_getD, List.getElem?_append_left h]
theorem rd_append_right {xs ys : List Int} {i : Nat} : rd (xs ++ ys) ((xs.length + i : Nat) : Int) = rd ys (i : Int) := by
  rw [rd, rd, Int.toNat_natCast, Int.toNat_natCast, List.getD_eq_getElem?_getD, List.getElem?_append_right (by omega), Nat.add_sub_cancel_left, List.getD_eq_getElem?_getD]
theorem rd_putb (n s i : Nat) (h : i < s) : rd (putb n s) (i : Int) = (byt n i : Int) := by
  simp [rd, putb, List.getD_eq_getElem?_getD, List.getElem?_map, List.getElem?_range h]
/-- what is put is got, wherever it stands -/
theorem get_put (n s : Nat) (h : n < 256 ^ s) (xs ys : List Int) : vle (bat (xs ++ (putb n s ++ ys)) xs.length) s = n := by
  rw [vle_congr (g := byt n) (fun i hi => by
    rw [bat, rd_append_right, rd_append_left (by rw [putb_length]; exact hi), rd_putb _ _ _ hi]; rfl), vle_byt, Nat.mod_eq_of_lt h]
theorem putb_inj {n m s : Nat} (hn : n < 256 ^ s) (hm : m < 256 ^ s) (h : putb n s = putb m s) : n = m := by
  have h1 := get_put n s hn [] []
  have h2 := get_put m s hm [] []
  rw [h] at h1
  exact h1.symm.trans h2
theorem putb_eq {n m s : Nat} (hn : n < 256 ^ s) (hm : m < 256 ^ s) : decide (putb n s = putb m s) = decide ((n : Int) = (m : Int)) := by
  by_cases h : n = m
  · subst h; simp
  · have h1 : ¬ putb n s = putb m s := fun e => h (putb_inj hn hm e)
    have h2 : ¬ (n : Int) = (m : Int) := by omega
    rw [decide_eq_false h1, decide_eq_false h2]
theorem puts_wf (n : Nat) (s : Int) : ∀ x ∈ (puts n s).1, (Lit.int .u8 x).wf = true := by
  have key : ∀ k, ∀ x ∈ putb n k, (Lit.int .u8 x).wf = true := fun k x hx => by
    simp only [putb, List.mem_map, List.mem_range] at hx
    obtain ⟨i, hi, rfl⟩ := hx
    have h : byt n i < 256 := Nat.mod_lt _ (by decide)
    exact WalkArith.wf_u8 (by omega)
  rw [puts]
  split
  · intro x hx; cases hx
  · exact key _
theorem wf_append {k : IntKind} {xs ys : List Int} (h1 : ∀ x ∈ xs, (Lit.int k x).wf = true) (h2 : ∀ x ∈ ys, (Lit.int k x).wf = true) : ∀ x ∈ xs ++ ys, (Lit.int k x).wf = true := fun x hx => by
  rcases List.mem_append.1 hx with h | h
  · exact h1 x h
  · exact h2 x h
theorem bytes_wf (f : Nat → Bool) (m : Nat) : ∀ x ∈ V.bytes f m, (Lit.int .u8 x).wf = true := fun x hx => by
  simp only [V.bytes, List.mem_map, List.mem_range] at hx
  obtain ⟨i, hi, rfl⟩ := hx
  have := V.byt8_lt f i
  exact WalkArith.wf_u8 (by omega)
theorem bitss_wf (xs : List Int) (s : Int) : ∀ x ∈ (bitss xs s).1, (Lit.int .u8 x).wf = true := by
  rw [bitss]
  split
  · intro x hx; cases hx
  · exact bytes_wf _ _
theorem items_wf (v : Nat → Nat) (s m : Nat) (hs : s ≤ 8) : ∀ x ∈ items v s m, (Lit.int .u8 x).wf = true := fun x hx => by
  simp only [items, List.mem_map, List.mem_range] at hx
  obtain ⟨i, hi, rfl⟩ := hx
  have := item_lt8 v s i hs
  exact WalkArith.wf_u8 (by omega)
theorem val_append {xs ys : List Int} {i : Nat} (h : i < xs.length) : val (xs ++ ys) i = val xs i := by rw [val, val, rd_append_left h]
theorem val_bytes (f : Nat → Bool) (m j : Nat) (h : j < m) : val (V.bytes f m) j = V.byt8 f j := by rw [val, bytes_rd _ _ _ h]; rfl
/-- numbers that were laid are read, whatever stands behind them -/
theorem unb_bits {xs ys : List Int} {s : Nat} (hw : ∀ x ∈ xs, (Lit.int .u8 x).wf = true) (h1 : 1 ≤ s) (h2 : s ≤ 8) (hl : xs.length ≤ 1048576) (h : ∀ i, i < xs.length → val xs i < 2 ^ s) :
    unbs (V.bytes (V.part (val xs) s xs.length) ((xs.length * s + 7) / 8) ++ ys) s xs.length = (xs, 0) := by
  obtain ⟨m, hm⟩ : ∃ m, m = (xs.length * s + 7) / 8 := ⟨_, rfl⟩
  rw [← hm, unbs_ok h1 h2 hl (by rw [List.length_append, V.bytes_length]; omega)]
  have e : items (val (V.bytes (V.part (val xs) s xs.length) m ++ ys)) s xs.length = xs := by
    apply List.ext_getElem
    · rw [items_length]
    · intro i g1 g2
      have e1 := item_bytes (val xs) (val (V.bytes (V.part (val xs) s xs.length) m ++ ys)) s xs.length m i (by omega) h (by omega) (fun j hj => by
        rw [val_append (by rw [V.bytes_length]; exact hj), val_bytes _ _ _ hj]) g2
      have e2 := (val_rd hw i).1
      simp only [items, List.getElem_map, List.getElem_range]
      rw [e1, ← e2]
      simp [rd, List.getD_eq_getElem?_getD, List.getElem?_eq_getElem g2]
  rw [e]
theorem unb_more {xs : List Int} {s : Nat} (h1 : 1 ≤ s) (h2 : s ≤ 8) (hl : xs.length ≤ 1048568) :
    unbs (V.bytes (V.part (val xs) s xs.length) ((xs.length * s + 7) / 8)) s ((xs.length : Int) + 8) = ([], 4) := by
  have := unbs_short (xs := V.bytes (V.part (val xs) s xs.length) ((xs.length * s + 7) / 8)) (s := s) (m := xs.length + 8) h1 h2 (by omega) (by
    rw [V.bytes_length, Nat.add_mul]; omega)
  rwa [show ((xs.length + 8 : Nat) : Int) = (xs.length : Int) + 8 by omega] at this
end Go.Proofs.Ytdchcggllcgokaa.U

namespace Go.Proofs.Ytdchcggllcgokaa.U
open Go.RowKit Go.Proofs.Ytdchcggllcgokaa.L Go.Proofs.YtdchcggllcgokaaW.PrintWords
set_option linter.unusedVariables false
set_option linter.unusedSimpArgs false

theorem lit_reads (W : World) (xs : List Int) (hm : xs.length ≤ 9223372036854775807) : ReadsInt (W.alloc (.cells (nums .u8 xs).toArray 5)) .u8 (some ⟨W.heap.size, 0, none⟩) xs.length xs :=
  own_reads' (own_lit W W.heap.size 5 .u8 xs (Nat.le_refl _) hm)
theorem same_true (A B : Option Addr) (c d : Nat) (xs : List Int) (w : World) (hx : ReadsInt w .u8 A xs.length xs) (hy : ReadsInt w .u8 B xs.length xs) (hn : xs.length ≤ 9223372036854775807) :
    Calls Try.prog 38 #[.slice A xs.length c, .slice B xs.length d] w fun e w' => e = .returned (.bool true) ∧ ∃ j, w' = w.drewN j := by
  have h := S.Same_any A B c d xs xs w hx hy hn hn
  rwa [decide_eq_true rfl] at h
theorem same_b (A B : Option Addr) (c d : Nat) (xs : List Int) (w : World) (hx : ReadsInt w .u8 A xs.length xs) (hy : ReadsInt w .u8 B xs.length xs) (hn : xs.length ≤ 9223372036854775807) :
    Calls Try.prog 38 #[.slice A xs.length c, .slice B xs.length d] w fun e w' => e = .returned (.bool true) ∧ Below w.heap.size w w' :=
  (same_true A B c d xs w hx hy hn).mono fun _ _ ⟨h1, h2⟩ => ⟨h1, drew_below h2⟩
theorem over_lit {w w1 : World} {o : Obj} (h : Below (w.alloc o).heap.size (w.alloc o) w1) : Below w.heap.size w w1 := below_1 h
theorem at_lit {w : World} {o : Obj} {k : IntKind} {A : Option Addr} {n : Nat} {xs : List Int} (h : ReadsInt w k A n xs) : ReadsInt (w.alloc o) k A n xs := h.below (below_alloc (Below.refl _ _) _)
theorem lives_put (w : World) : Calls Try.prog 42 #[.int .u64 258, .int .i64 2] w fun e w' => ∃ g, e = .returned (.tuple #[.slice (some ⟨g, 0, none⟩) 2 2, .int .i64 0]) ∧ ReadsInt w' .u8 (some ⟨g, 0, none⟩) 2 [2, 1] ∧ Below w.heap.size w w' := by
  refine (Put_ok 258 (by decide) 2 (by decide) (by decide) (by decide) w).mono ?_
  rintro e w' ⟨g, rfl, ho, hb⟩
  exact ⟨g, rfl, own_reads' ho, hb⟩
theorem lives_bits (A : Option Addr) (c : Nat) (w : World) (hr : ReadsInt w .u8 A 3 [1, 2, 3]) : Calls Try.prog 34 #[.slice A 3 c, .int .i64 2] w fun e w' => ∃ A' c', e = .returned (.tuple #[.slice A' 1 c', .int .i64 0]) ∧ ReadsInt w' .u8 A' 1 [57] ∧ Below w.heap.size w w' := by
  refine (Bits_any A c [1, 2, 3] (by decide) 2 (by decide) (by decide) (by decide) w hr).mono ?_
  rintro e w' ⟨⟨⟨i, hi, hv⟩, _⟩ | ⟨_, g, rfl, ho⟩, hb⟩
  · exfalso
    have : i = 0 ∨ i = 1 ∨ i = 2 := by simp at hi; omega
    rcases this with rfl | rfl | rfl <;> exact absurd hv (by decide)
  · exact ⟨_, _, rfl, own_reads' ho, hb⟩
theorem lives_unbits (A : Option Addr) (c : Nat) (w : World) (hr : ReadsInt w .u8 A 1 [57]) : Calls Try.prog 36 #[.slice A 1 c, .int .i64 2, .int .i64 3] w fun e w' => ∃ A' c', e = .returned (.tuple #[.slice A' 3 c', .int .i64 0]) ∧ ReadsInt w' .u8 A' 3 [1, 2, 3] ∧ Below w.heap.size w w' := by
  refine (Unbits_ok A c [57] (by decide) 2 3 (by decide) (by decide) (by decide) (by decide) w hr).mono ?_
  rintro e w' ⟨g, rfl, ho, hb⟩
  exact ⟨_, _, rfl, own_reads' ho, hb⟩
set_option maxRecDepth 100000 in
set_option maxHeartbeats 1000000 in
theorem lives_any (w : World) : Calls Try.prog 32 #[] w fun e w' => e = .returned (.bool true) ∧ Below w.heap.size w w' := by
  have P2 : Hid (∀ w, Calls Try.prog 42 #[.int .u64 256, .int .i64 1] w fun e w' => e = .returned (.tuple #[.slice none 0 0, .int .i64 2]) ∧ w = w') := Lib.hid (fun w => Put_big 256 (by decide) 1 (by decide) (by decide) (by decide) w)
  have HB := Lib.hid (Below.refl w.heap.size w)
  go_enter Try.func32, Try.ntmps32
  go_wp2_with (first
    | (go_at_call_of 42 (Value.int .u64 258); refine (lives_put _).mono ?_; rintro e w1 ⟨g, rfl, hr1, hb1⟩; have R1 := Lib.hid hr1; replace HB := Lib.hid (below_ext HB.out hb1); clear hb1)
    | (go_at_call 42; refine (P2.out _).mono ?_; rintro e w2 ⟨rfl, rfl⟩)
    | (go_at_call 34; refine (lives_bits _ _ _ (lit_reads w1 [1, 2, 3] (by decide))).mono ?_; rintro e w3 ⟨A3, c3, rfl, hr3, hb3⟩; have R3 := Lib.hid hr3; replace R1 := Lib.hid (R1.out.below (over_lit hb3)); replace HB := Lib.hid (below_ext HB.out (over_lit hb3)); clear hb3)
    | (go_at_call 36; refine (lives_unbits _ _ _ (lit_reads w3 [57] (by decide))).mono ?_; rintro e w4 ⟨A4, c4, rfl, hr4, hb4⟩; have R4 := Lib.hid hr4; replace R1 := Lib.hid (R1.out.below (over_lit hb4)); replace R3 := Lib.hid (R3.out.below (over_lit hb4)); replace HB := Lib.hid (below_ext HB.out (over_lit hb4)); clear hb4)
    | (go_at_call_of 38 (Value.slice (some ⟨g, 0, none⟩) 2 2); refine (same_b _ _ 2 2 [2, 1] _ (at_lit R1.out) (lit_reads w4 [2, 1] (by decide)) (by decide)).mono ?_; rintro e w5 ⟨rfl, hb5⟩; replace R1 := Lib.hid (R1.out.below (over_lit hb5)); replace R3 := Lib.hid (R3.out.below (over_lit hb5)); replace R4 := Lib.hid (R4.out.below (over_lit hb5)); replace HB := Lib.hid (below_ext HB.out (over_lit hb5)); clear hb5)
    | (go_at_call_of 38 (Value.slice A3 1 c3); refine (same_b _ _ c3 1 [57] _ (at_lit R3.out) (lit_reads w5 [57] (by decide)) (by decide)).mono ?_; rintro e w6 ⟨rfl, hb6⟩; replace R1 := Lib.hid (R1.out.below (over_lit hb6)); replace R3 := Lib.hid (R3.out.below (over_lit hb6)); replace R4 := Lib.hid (R4.out.below (over_lit hb6)); replace HB := Lib.hid (below_ext HB.out (over_lit hb6)); clear hb6)
    | (go_at_call_of 38 (Value.slice A4 3 c4); refine (same_b _ _ c4 3 [1, 2, 3] _ (at_lit R4.out) (lit_reads w6 [1, 2, 3] (by decide)) (by decide)).mono ?_; rintro e w7 ⟨rfl, hb7⟩; replace R1 := Lib.hid (R1.out.below (over_lit hb7)); replace R3 := Lib.hid (R3.out.below (over_lit hb7)); replace R4 := Lib.hid (R4.out.below (over_lit hb7)); replace HB := Lib.hid (below_ext HB.out (over_lit hb7)); clear hb7))
  go_ret
  exact ⟨ret_b (by simp), HB.out⟩
end Go.Proofs.Ytdchcggllcgokaa.U

namespace Go.Proofs.Ytdchcggllcgokaa.U
open Go.RowKit Go.Proofs.Ytdchcggllcgokaa.L Go.Proofs.YtdchcggllcgokaaW.PrintWords
set_option linter.unusedVariables false
set_option linter.unusedSimpArgs false

theorem same_no (A B : Option Addr) (c d : Nat) (xs ys : List Int) (w : World) (hne : xs ≠ ys) (hx : ReadsInt w .u8 A xs.length xs) (hy : ReadsInt w .u8 B ys.length ys) :
    Calls Try.prog 38 #[.slice A xs.length c, .slice B ys.length d] w fun e w' => e = .returned (.bool false) ∧ Below w.heap.size w w' := by
  have h := S.Same_any A B c d xs ys w hx hy hx.2.1 hy.2.1
  rw [decide_eq_false hne] at h
  exact h.mono fun _ _ ⟨h1, h2⟩ => ⟨h1, drew_below h2⟩
theorem same_yes (A B : Option Addr) (c d : Nat) (xs : List Int) (w : World) (hx : ReadsInt w .u8 A xs.length xs) (hy : ReadsInt w .u8 B xs.length xs) :
    Calls Try.prog 38 #[.slice A xs.length c, .slice B xs.length d] w fun e w' => e = .returned (.bool true) ∧ Below w.heap.size w w' := same_b A B c d xs w hx hy hx.2.1
theorem left_b (g : Nat) (B : Option Addr) (d : Nat) (xs : List Int) (w : World) (hx : ReadsInt w .u8 (some ⟨g, 0, none⟩) (xs.length + 3) (S.wid xs)) (hy : ReadsInt w .u8 B xs.length xs) (hn : xs.length ≤ 140737488351232) :
    Calls Try.prog 40 #[.slice (some ⟨g, 0, none⟩) xs.length (xs.length + 3), .slice B xs.length d] w fun e w' => e = .returned (.bool true) ∧ Below w.heap.size w w' :=
  (S.Left_any g B d xs w hx hy hn).mono fun _ _ ⟨h1, h2⟩ => ⟨h1, drew_below h2⟩
theorem wide_b (A : Option Addr) (c : Nat) (xs : List Int) (w : World) (hx : ReadsInt w .u8 A xs.length xs) (hn : xs.length ≤ 140737488351232) :
    Calls Try.prog 33 #[.slice A xs.length c] w fun e w' => (∃ g, e = .returned (.slice (some ⟨g, 0, none⟩) xs.length (xs.length + 3)) ∧ ReadsInt w' .u8 (some ⟨g, 0, none⟩) (xs.length + 3) (S.wid xs)) ∧ Below w.heap.size w w' :=
  (S.Wide_any A c xs w hx hn).mono fun _ _ ⟨g, h1, h2, h3⟩ => ⟨⟨g, h1, own_reads' h2⟩, h3⟩
theorem u64_nat {n : Int} (h : (Lit.int .u64 n).wf = true) : ∃ k : Nat, n = k ∧ k < 18446744073709551616 := by
  obtain ⟨h1, h2⟩ := bounds_u64 h
  exact ⟨n.toNat, by omega, by omega⟩
/-- a call of Put, its row under a name -/
def PutN (s : Nat) (n : Nat) (X : List Int) (k : Int) : Prop := ∀ w : World, Calls Try.prog 42 #[.int .u64 (n : Int), .int .i64 (s : Int)] w fun e w' => (∃ A c, e = .returned (.tuple #[.slice A X.length c, .int .i64 k]) ∧ Byts w.heap.size w' A c X) ∧ Below w.heap.size w w'
theorem put_n {n s : Nat} {X : List Int} {k : Int} (hn : n < 18446744073709551616) (hs : s ≤ 8) (h : puts n s = (X, k)) : PutN s n X k := fun w => by
  have h2 := Put_all n hn s (by omega) w
  simp only [PutP, h] at h2
  exact h2

set_option maxRecDepth 100000 in
set_option maxHeartbeats 1000000 in
theorem one_any (n m : Nat) (hn : n < 18446744073709551616) (hm : m < 18446744073709551616) (z : Int) (hz : 0 ≤ z ∧ z ≤ 255) (w : World) :
    Calls Try.prog 5 #[.int .u64 (n : Int), .int .u64 (m : Int), .int .u8 z] w fun e w' => e = .returned (.bool true) ∧ Below w.heap.size w w' := by
  obtain ⟨K, hK⟩ : ∃ K : Nat, 1 + z % 8 = (K : Int) := ⟨(1 + z % 8).toNat, by omega⟩
  have hK1 : 1 ≤ K := by omega
  have hK8 : K ≤ 8 := by omega
  obtain ⟨z0, z1⟩ := hz
  have HB := Lib.hid (Below.refl w.heap.size w)
  have big : ∀ x : Nat, x < 18446744073709551616 → 256 ^ K ≤ x → K < 8 := fun x hx h => by
    refine Nat.lt_of_not_le fun h8 => ?_
    have h3 : 256 ^ 8 ≤ 256 ^ K := Nat.pow_le_pow_right (by decide) h8
    omega
  rcases (by omega : (n < 256 ^ K ∧ m < 256 ^ K) ∨ 256 ^ K ≤ n ∨ (n < 256 ^ K ∧ 256 ^ K ≤ m)) with ⟨h1, h2⟩ | h1 | ⟨h1, h2⟩
  · obtain ⟨X, hX⟩ : ∃ X, X = putb n K := ⟨_, rfl⟩
    obtain ⟨Y, hY⟩ : ∃ Y, Y = putb m K := ⟨_, rfl⟩
    have P1 := Lib.hid (put_n hn hK8 (by rw [puts_ok hK1 hK8 h1, hX]) : PutN K n X 0)
    have P2 := Lib.hid (put_n hm hK8 (by rw [puts_ok hK1 hK8 h2, hY]) : PutN K m Y 0)
    by_cases h : n = m
    · obtain rfl : X = Y := by rw [hX, hY, h]
      have hq : ((n : Int) == (m : Int)) = true := by simp [h]
      clear h h1 h2 hX hY hn hm big
      go_enter Try.func5, Try.ntmps5
      go_wp2_with (first
        | (go_at_call_of 42 (Value.int .u64 (n : Int)); refine (P1.out _).mono ?_; rintro e w1 ⟨⟨A1, c1, rfl, o1⟩, hb1⟩; have O1 := Lib.hid o1; replace HB := Lib.hid (below_ext HB.out hb1); clear hb1)
        | (go_at_call 42; refine (P2.out _).mono ?_; rintro e w2 ⟨⟨A2, c2, rfl, o2⟩, hb2⟩; have O2 := Lib.hid o2; replace O1 := Lib.hid (O1.out.below hb2); replace HB := Lib.hid (below_ext HB.out hb2); clear hb2)
        | (go_at_call 38; refine (same_yes A1 A2 c1 c2 X _ O1.out.reads O2.out.reads).mono ?_; rintro e w3 ⟨rfl, hb3⟩; replace O1 := Lib.hid (O1.out.below hb3); replace O2 := Lib.hid (O2.out.below hb3); replace HB := Lib.hid (below_ext HB.out hb3); clear hb3)
        | (go_at_call 32; refine (lives_any _).mono ?_; rintro e w4 ⟨rfl, hb4⟩; replace HB := Lib.hid (below_ext HB.out hb4); clear hb4))
      go_ret
      exact ⟨ret_b (by simp), HB.out⟩
    · have HN := Lib.hid (show X ≠ Y from fun e => h (putb_inj h1 h2 (by rw [← hX, ← hY, e])))
      have hq : ((n : Int) == (m : Int)) = false := by simp; omega
      clear h h1 h2 hX hY hn hm big
      go_enter Try.func5, Try.ntmps5
      go_wp2_with (first
        | (go_at_call_of 42 (Value.int .u64 (n : Int)); refine (P1.out _).mono ?_; rintro e w1 ⟨⟨A1, c1, rfl, o1⟩, hb1⟩; have O1 := Lib.hid o1; replace HB := Lib.hid (below_ext HB.out hb1); clear hb1)
        | (go_at_call 42; refine (P2.out _).mono ?_; rintro e w2 ⟨⟨A2, c2, rfl, o2⟩, hb2⟩; have O2 := Lib.hid o2; replace O1 := Lib.hid (O1.out.below hb2); replace HB := Lib.hid (below_ext HB.out hb2); clear hb2)
        | (go_at_call 38; refine (same_no A1 A2 c1 c2 X Y _ HN.out O1.out.reads O2.out.reads).mono ?_; rintro e w3 ⟨rfl, hb3⟩; replace O1 := Lib.hid (O1.out.below hb3); replace O2 := Lib.hid (O2.out.below hb3); replace HB := Lib.hid (below_ext HB.out hb3); clear hb3)
        | (go_at_call 32; refine (lives_any _).mono ?_; rintro e w4 ⟨rfl, hb4⟩; replace HB := Lib.hid (below_ext HB.out hb4); clear hb4))
      go_ret
      exact ⟨ret_b (by simp), HB.out⟩
  · have hK9 := big n hn h1
    have h3 := puts_bad h1
    have P1 := Lib.hid (put_n hn hK8 h3 : PutN K n [] 2)
    obtain ⟨⟨Y, k⟩, hY⟩ : ∃ Y, Y = puts m K := ⟨_, rfl⟩
    have P2 := Lib.hid (put_n hm hK8 hY.symm : PutN K m Y k)
    clear h1 h3 hY hn hm big
    go_enter Try.func5, Try.ntmps5
    go_wp2_with (first
      | (go_at_call_of 42 (Value.int .u64 (n : Int)); refine (P1.out _).mono ?_; rintro e w1 ⟨⟨A1, c1, rfl, o1⟩, hb1⟩; have O1 := Lib.hid o1; replace HB := Lib.hid (below_ext HB.out hb1); clear hb1)
      | (go_at_call 42; refine (P2.out _).mono ?_; rintro e w2 ⟨⟨A2, c2, rfl, o2⟩, hb2⟩; have O2 := Lib.hid o2; replace O1 := Lib.hid (O1.out.below hb2); replace HB := Lib.hid (below_ext HB.out hb2); clear hb2)
      | (go_at_call 32; refine (lives_any _).mono ?_; rintro e w3 ⟨rfl, hb3⟩; replace HB := Lib.hid (below_ext HB.out hb3); clear hb3))
    go_ret
    exact ⟨ret_b (by simp), HB.out⟩
  · have hK9 := big m hm h2
    have P1 := Lib.hid (put_n hn hK8 (puts_ok hK1 hK8 h1) : PutN K n (putb n K) 0)
    have P2 := Lib.hid (put_n hm hK8 (puts_bad h2) : PutN K m [] 2)
    clear h1 h2 hn hm big
    go_enter Try.func5, Try.ntmps5
    go_wp2_with (first
      | (go_at_call_of 42 (Value.int .u64 (n : Int)); refine (P1.out _).mono ?_; rintro e w1 ⟨⟨A1, c1, rfl, o1⟩, hb1⟩; have O1 := Lib.hid o1; replace HB := Lib.hid (below_ext HB.out hb1); clear hb1)
      | (go_at_call 42; refine (P2.out _).mono ?_; rintro e w2 ⟨⟨A2, c2, rfl, o2⟩, hb2⟩; have O2 := Lib.hid o2; replace O1 := Lib.hid (O1.out.below hb2); replace HB := Lib.hid (below_ext HB.out hb2); clear hb2)
      | (go_at_call 32; refine (lives_any _).mono ?_; rintro e w3 ⟨rfl, hb3⟩; replace HB := Lib.hid (below_ext HB.out hb3); clear hb3))
    go_ret
    exact ⟨ret_b (by simp), HB.out⟩
theorem one_any' (n : Int) (wn : (Lit.int .u64 n).wf = true) (m : Int) (wm : (Lit.int .u64 m).wf = true) (z : Int) (wz : (Lit.int .u8 z).wf = true) (w : World) :
    Calls Try.prog 5 #[.int .u64 n, .int .u64 m, .int .u8 z] w fun e w' => e = .returned (.bool true) ∧ Below w.heap.size w w' := by
  obtain ⟨n, rfl, hn⟩ := u64_nat wn
  obtain ⟨m, rfl, hm⟩ := u64_nat wm
  obtain ⟨h1, h2⟩ := bounds_u8 wz
  exact one_any n m hn hm z (by omega) w
set_option maxRecDepth 100000 in
set_option maxHeartbeats 1000000 in
theorem numbers_any (n : Nat) (hn : n < 18446744073709551616) (s : Int) (hs : -9223372036854775808 ≤ s ∧ s ≤ 9223372036854775807) (A : Option Addr) (cap : Nat) (xs : List Int) (a : Int) (ha : -9223372036854775808 ≤ a ∧ a ≤ 9223372036854775807)
    (hw : ∀ x ∈ xs, (Lit.int .u8 x).wf = true) (hlen : xs.length ≤ 140737488351232) (hl : xs.length ≤ cap) (hc : cap ≤ 9223372036854775807) (w : World) (hr : ReadsInt w .u8 A xs.length xs) :
    Calls Try.prog 6 #[.int .u64 (n : Int), .int .i64 s, .slice A xs.length cap, .int .i64 a] w fun e w' => e = .returned (.bool true) ∧ Below w.heap.size w w' := by
  have HB := Lib.hid (Below.refl w.heap.size w)
  have HR := Lib.hid hr
  have HN := Lib.hid hlen
  obtain ⟨⟨X, k⟩, hX⟩ : ∃ X, X = puts n s := ⟨_, rfl⟩
  have P1 : Hid (∀ w : World, Calls Try.prog 42 #[.int .u64 (n : Int), .int .i64 s] w fun e w' => (∃ A c, e = .returned (.tuple #[.slice A X.length c, .int .i64 k]) ∧ Byts w.heap.size w' A c X) ∧ Below w.heap.size w w') := Lib.hid fun w => by
    have h2 := Put_all n hn s hs w
    simp only [PutP, ← hX] at h2
    exact h2
  have P2 : Hid (∀ w : World, Calls Try.prog 43 #[.int .u64 (n : Int), .int .i64 s] w fun e w' => (∃ A c, e = .returned (.tuple #[.slice A X.length c, .int .i64 k]) ∧ Byts w.heap.size w' A c X) ∧ Below w.heap.size w w') := Lib.hid fun w => by
    have h2 := rPut_all n hn s hs w
    simp only [PutP, ← hX] at h2
    exact h2
  obtain ⟨⟨G, j⟩, hG⟩ : ∃ G, G = gets xs a s := ⟨_, rfl⟩
  have P3 : Hid (∀ (A : Option Addr) (cap : Nat) (w : World), xs.length ≤ cap → cap ≤ 9223372036854775807 → ReadsInt w .u8 A xs.length xs → Calls Try.prog 44 #[.slice A xs.length cap, .int .i64 a, .int .i64 s] w fun e w' => e = .returned (.tuple #[.int .u64 (G : Int), .int .i64 j]) ∧ Below w.heap.size w w') := Lib.hid fun A cap w hl hc hr => by
    have h2 := Get_b A cap xs hw a s ha hs hl hc w hr
    simp only [← hG] at h2
    exact h2
  have P4 : Hid (∀ (w : World), ReadsInt w .u8 A xs.length xs → Calls Try.prog 45 #[.slice A xs.length cap, .int .i64 a, .int .i64 s] w fun e w' => e = .returned (.tuple #[.int .u64 (G : Int), .int .i64 j]) ∧ Below w.heap.size w w') := Lib.hid fun w hr => by
    have h2 := rGet_b A cap xs hw a s ha hs hl hc w hr
    simp only [← hG] at h2
    exact h2
  have hlen' : xs.length ≤ 140737488351232 := hlen
  clear hr hX hG hn hs ha hw hlen hc
  go_enter Try.func6, Try.ntmps6
  go_wp2_with (first
    | (go_at_call 33; refine (wide_b A cap xs _ HR.out HN.out).mono ?_; rintro e w1 ⟨⟨g, rfl, r1⟩, hb1⟩; have W1 := Lib.hid r1; replace HB := Lib.hid (below_ext HB.out hb1); clear hb1)
    | (go_at_call 42; refine (P1.out _).mono ?_; rintro e w2 ⟨⟨A1, c1, rfl, o1⟩, hb2⟩; have O1 := Lib.hid o1; replace W1 := Lib.hid (W1.out.below hb2); replace HB := Lib.hid (below_ext HB.out hb2); clear hb2)
    | (go_at_call 43; refine (P2.out _).mono ?_; rintro e w3 ⟨⟨A2, c2, rfl, o2⟩, hb3⟩; have O2 := Lib.hid o2; replace W1 := Lib.hid (W1.out.below hb3); replace O1 := Lib.hid (O1.out.below hb3); replace HB := Lib.hid (below_ext HB.out hb3); clear hb3)
    | (go_at_call 44; refine (P3.out _ _ _ (by omega) (by omega) (S.wid_reads W1.out)).mono ?_; rintro e w4 ⟨rfl, hb4⟩; replace W1 := Lib.hid (W1.out.below hb4); replace O1 := Lib.hid (O1.out.below hb4); replace O2 := Lib.hid (O2.out.below hb4); replace HB := Lib.hid (below_ext HB.out hb4); clear hb4)
    | (go_at_call 45; refine (P4.out _ (HR.out.below HB.out)).mono ?_; rintro e w5 ⟨rfl, hb5⟩; replace W1 := Lib.hid (W1.out.below hb5); replace O1 := Lib.hid (O1.out.below hb5); replace O2 := Lib.hid (O2.out.below hb5); replace HB := Lib.hid (below_ext HB.out hb5); clear hb5)
    | (go_at_call 38; refine (same_yes A1 A2 c1 c2 X _ O1.out.reads O2.out.reads).mono ?_; rintro e w6 ⟨rfl, hb6⟩; replace W1 := Lib.hid (W1.out.below hb6); replace O1 := Lib.hid (O1.out.below hb6); replace O2 := Lib.hid (O2.out.below hb6); replace HB := Lib.hid (below_ext HB.out hb6); clear hb6)
    | (go_at_call 40; refine (left_b g A cap xs _ W1.out (HR.out.below HB.out) HN.out).mono ?_; rintro e w7 ⟨rfl, hb7⟩; replace W1 := Lib.hid (W1.out.below hb7); replace HB := Lib.hid (below_ext HB.out hb7); clear hb7)
    | (go_at_call 32; refine (lives_any _).mono ?_; rintro e w8 ⟨rfl, hb8⟩; replace W1 := Lib.hid (W1.out.below hb8); replace HB := Lib.hid (below_ext HB.out hb8); clear hb8))
  go_ret
  exact ⟨ret_b (by simp), HB.out⟩
theorem numbers_any' (n : Int) (wn : (Lit.int .u64 n).wf = true) (s : Int) (ws : (Lit.int .i64 s).wf = true) (A : Option Addr) (cap : Nat) (l : List Int) {w : World} (hr : ReadsInt w .u8 A l.length l) (y : l.length * 1 ≤ 140737488351232) (hw : ∀ x ∈ l, (Lit.int .u8 x).wf = true) (hc : l.length ≤ cap) (hcap : cap ≤ 9223372036854775807) (a : Int) (wa : (Lit.int .i64 a).wf = true) :
    Calls Try.prog 6 #[.int .u64 n, .int .i64 s, .slice A l.length cap, .int .i64 a] w fun e w' => e = .returned (.bool true) ∧ Below w.heap.size w w' := by
  obtain ⟨n, rfl, hn⟩ := u64_nat wn
  exact numbers_any n hn s (bounds_i64 ws) A cap l a (bounds_i64 wa) hw (by omega) hc hcap w hr
end Go.Proofs.Ytdchcggllcgokaa.U

namespace Go.Proofs.Ytdchcggllcgokaa.U
open Go.RowKit Go.Proofs.Ytdchcggllcgokaa.L Go.Proofs.YtdchcggllcgokaaW.PrintWords
set_option linter.unusedVariables false
set_option linter.unusedSimpArgs false

theorem Byts.lower {b b' : Nat} {W : World} {A : Option Addr} {c : Nat} {ys : List Int} (h : Byts b W A c ys) (hb : b' ≤ b) : Byts b' W A c ys := own_lower h hb
theorem copy_b (A : Option Addr) (c : Nat) (xs : List Int) (w : World) (hx : ReadsInt w .u8 A xs.length xs) (hn : xs.length ≤ 140737488355328) :
    Calls Try.prog 41 #[.slice A xs.length c] w fun e w' => (∃ A c, e = .returned (.slice A xs.length c) ∧ Byts w.heap.size w' A c xs) ∧ Below w.heap.size w w' := by
  refine (S.Copy_any A c xs w hx hn).mono ?_
  rintro e w' ⟨v, rfl, ho, hb⟩
  obtain ⟨A, c, rfl, h⟩ := byts_of ho rfl
  exact ⟨⟨A, c, rfl, h⟩, hb⟩
/-- calls, their rows under names -/
def BitsN (xs : List Int) (k : Nat) (X : List Int) (er : Int) : Prop := ∀ (A : Option Addr) (c : Nat) (w : World), ReadsInt w .u8 A xs.length xs → Calls Try.prog 34 #[.slice A xs.length c, .int .i64 (k : Int)] w fun e w' => (∃ A c, e = .returned (.tuple #[.slice A X.length c, .int .i64 er]) ∧ Byts w.heap.size w' A c X) ∧ Below w.heap.size w w'
theorem bits_n {xs X : List Int} {k : Nat} {er : Int} (hw : ∀ x ∈ xs, (Lit.int .u8 x).wf = true) (hl : xs.length ≤ 1048576) (hk : k ≤ 8) (h : bitss xs k = (X, er)) : BitsN xs k X er := fun A c w hr => by
  have h2 := Bits_all A c xs hw k (by omega) hl w hr
  simp only [BitsP, h] at h2
  exact h2
def UnbN (L : List Int) (k : Nat) (m : Int) (X : List Int) (er : Int) : Prop := ∀ (A : Option Addr) (c : Nat) (w : World), ReadsInt w .u8 A L.length L → Calls Try.prog 36 #[.slice A L.length c, .int .i64 (k : Int), .int .i64 m] w fun e w' => (∃ A c, e = .returned (.tuple #[.slice A X.length c, .int .i64 er]) ∧ Byts w.heap.size w' A c X) ∧ Below w.heap.size w w'
theorem unb_n {L X : List Int} {k : Nat} {m er : Int} (hw : ∀ x ∈ L, (Lit.int .u8 x).wf = true) (hl : L.length ≤ 140737488355328) (hk : k ≤ 8) (hm : -9223372036854775808 ≤ m ∧ m ≤ 9223372036854775807) (h : unbs L k m = (X, er)) : UnbN L k m X er := fun A c w hr => by
  have h2 := Unbits_all A c L hw k m (by omega) hm hl w hr
  simp only [UnbP, h] at h2
  exact h2
theorem bits_ok {xs : List Int} {s : Nat} (h1 : 1 ≤ s) (h2 : s ≤ 8) (h : ∀ i, i < xs.length → val xs i < 2 ^ s) : bitss xs s = (V.bytes (V.part (val xs) s xs.length) ((xs.length * s + 7) / 8), 0) := by
  rw [bitss, if_neg]
  · simp
  · rintro (h3 | h3 | ⟨i, hi, h4⟩)
    · omega
    · omega
    · have := h i hi; rw [Int.toNat_natCast] at h4; omega

set_option maxRecDepth 100000 in
set_option maxHeartbeats 1000000 in
theorem row_any (A : Option Addr) (cap : Nat) (xs : List Int) (z : Int) (hz : 0 ≤ z ∧ z ≤ 255) (B : Option Addr) (cap2 : Nat) (zs : List Int) (w : World) (hr : ReadsInt w .u8 A xs.length xs) (hw : ∀ x ∈ xs, (Lit.int .u8 x).wf = true) (hr2 : ReadsInt w .u8 B zs.length zs) (hw2 : ∀ x ∈ zs, (Lit.int .u8 x).wf = true) (hz2 : zs.length ≤ 140737488351232) :
    Calls Try.prog 4 #[.slice A xs.length cap, .int .u8 z, .slice B zs.length cap2] w fun e w' => e = .returned (.bool true) ∧ Below w.heap.size w w' := by
  obtain ⟨z0, z1⟩ := hz
  have HB := Lib.hid (Below.refl w.heap.size w)
  have HR := Lib.hid hr
  have HZ := Lib.hid hr2
  have hlm := hr.2.1
  clear hr hr2
  by_cases hl : 3000 < xs.length
  · clear hw hw2
    go_enter Try.func4, Try.ntmps4
    go_wp2_with (first
      | (go_at_call 32; refine (lives_any _).mono ?_; rintro e w1 ⟨rfl, hb1⟩; replace HB := Lib.hid (below_ext HB.out hb1); clear hb1))
    go_ret
    exact ⟨ret_b (by simp), HB.out⟩
  · obtain ⟨K, hK⟩ : ∃ K : Nat, 1 + z % 8 = (K : Int) := ⟨(1 + z % 8).toNat, by omega⟩
    have hK1 : 1 ≤ K := by omega
    have hK8 : K ≤ 8 := by omega
    by_cases hb : ∃ i, i < xs.length ∧ 2 ^ K ≤ val xs i
    · have P1 := Lib.hid (bits_n hw (by omega) hK8 (bits_two hb) : BitsN xs K [] 2)
      have hK9 : K < 8 := by
        obtain ⟨i, _, h⟩ := hb
        refine Nat.lt_of_not_le fun h8 => ?_
        obtain rfl : K = 8 := by omega
        have := (val_rd hw i).2
        omega
      clear hb hw hw2
      go_enter Try.func4, Try.ntmps4
      go_wp2_with (first
        | (go_at_call 34; refine (P1.out A cap _ HR.out).mono ?_; rintro e w1 ⟨⟨A1, c1, rfl, o1⟩, hb1⟩; replace HB := Lib.hid (below_ext HB.out hb1); clear hb1)
        | (go_at_call 32; refine (lives_any _).mono ?_; rintro e w2 ⟨rfl, hb2⟩; replace HB := Lib.hid (below_ext HB.out hb2); clear hb2))
      go_ret
      exact ⟨ret_b (by simp), HB.out⟩
    · have hv : ∀ i, i < xs.length → val xs i < 2 ^ K := fun i hi => Nat.lt_of_not_le fun h => hb ⟨i, hi, h⟩
      obtain ⟨BS, hBS⟩ : ∃ BS, BS = V.bytes (V.part (val xs) K xs.length) ((xs.length * K + 7) / 8) := ⟨_, rfl⟩
      obtain ⟨P, hP⟩ : ∃ P, P = xs.length * K := ⟨_, rfl⟩
      have hP1 : (K : Int) * (xs.length : Int) = (P : Int) := by rw [hP, Nat.mul_comm]; exact (Int.natCast_mul _ _).symm
      have hP2 : P ≤ 24000 := by rw [hP]; exact Nat.le_trans (Nat.mul_le_mul (by omega : xs.length ≤ 3000) hK8) (by decide)
      have hB1 : BS.length = (P + 7) / 8 := by rw [hBS, V.bytes_length, hP]
      have hB2 : P ≤ 8 * BS.length := by omega
      have hB3 : 8 * BS.length < P + 8 := by omega
      have hB4 : BS.length ≤ 3000 := by omega
      have P1 := Lib.hid (bits_n hw (by omega) hK8 (by rw [bits_ok hK1 hK8 hv, hBS]) : BitsN xs K BS 0)
      have P3 := Lib.hid (unb_n (by rw [hBS]; exact bytes_wf _ _) (by omega) hK8 (by omega) (by rw [hBS]; exact unb_more hK1 hK8 (by omega)) : UnbN BS K ((xs.length : Int) + 8) [] 4)
      obtain ⟨L, hL⟩ : ∃ L, L = BS ++ zs := ⟨_, rfl⟩
      have HL := Lib.hid hL.symm
      have hLw : ∀ x ∈ L, (Lit.int .u8 x).wf = true := by rw [hL, hBS]; exact wf_append (bytes_wf _ _) hw2
      have hL1 : L.length ≤ 140737488355328 := by rw [hL, List.length_append]; omega
      have P2 := Lib.hid (unb_n hLw hL1 hK8 (by omega) (by rw [hL, hBS]; exact unb_bits hw hK1 hK8 (by omega) hv) : UnbN L K (xs.length : Int) xs 0)
      have HL5 := Lib.hid (show (BS.length + zs.length) * 1 ≤ 140737488355328 by omega)
      have HBL := Lib.hid (show BS.length ≤ 140737488355328 by omega)
      have hL2 : L.length ≤ 140737488355328 := hL1
      clear hb hv hBS hP hB1 hL hLw hw hw2 hL1
      go_enter Try.func4, Try.ntmps4
      go_wp2_with (first
        | (go_at_call 34; refine (P1.out A cap _ HR.out).mono ?_; rintro e w1 ⟨⟨A1, c1, rfl, o1⟩, hb1⟩; have O1 := Lib.hid o1; replace HB := Lib.hid (below_ext HB.out hb1); clear hb1)
        | (go_at_call 41; refine (copy_b A1 c1 BS _ O1.out.reads HBL.out).mono ?_; rintro e w2 ⟨⟨A2, c2, rfl, o2⟩, hb2⟩; have O2 := Lib.hid o2; have B2 := Lib.hid hb2; clear o2 hb2)
        | (at_builtin; refine print_append_row (w0 := w1) w1.heap.size rfl (.tmp 44) (.tmp 45) 22 5 .u8 1 rfl Try.underlying22 S.info_u8 (by decide) _ BS zs B zs.length cap2 rfl rfl O2.out (HZ.out.below (below_ext HB.out B2.out)) B2.out B2.out.size HL5.out ?_; intro v3 w3 ho3 hb3 hg3 hat3; rw [HL.out] at ho3; replace O1 := Lib.hid (O1.out.below hb3); replace HB := Lib.hid (below_ext HB.out hb3); obtain ⟨A5, c5, rfl, hr5⟩ := own_reads ho3; have R5 := Lib.hid hr5; clear ho3 hb3 hg3 hat3 hr5 O2 B2)
        | (go_at_call_of 36 (Value.slice A1 BS.length c1); refine (P3.out _ _ _ O1.out.reads).mono ?_; rintro e w4 ⟨⟨A7, c7, rfl, o7⟩, hb4⟩; replace O4 := Lib.hid (O4.out.below hb4); replace O1 := Lib.hid (O1.out.below hb4); replace HB := Lib.hid (below_ext HB.out hb4); clear hb4)
        | (go_at_call 36; refine (P2.out _ _ _ R5.out).mono ?_; rintro e w5 ⟨⟨A6, c6, rfl, o6⟩, hb5⟩; have O4 := Lib.hid o6; replace O1 := Lib.hid (O1.out.below hb5); replace HB := Lib.hid (below_ext HB.out hb5); clear hb5)
        | (go_at_call 38; refine (same_yes A6 A c6 cap xs _ O4.out.reads (HR.out.below HB.out)).mono ?_; rintro e w6 ⟨rfl, hb6⟩; replace HB := Lib.hid (below_ext HB.out hb6); clear hb6)
        | (go_at_call 32; refine (lives_any _).mono ?_; rintro e w7 ⟨rfl, hb7⟩; replace HB := Lib.hid (below_ext HB.out hb7); clear hb7))
      go_ret
      exact ⟨ret_b (by simp), HB.out⟩
theorem row_any' (A : Option Addr) (cap : Nat) (l : List Int) {w : World} (hr : ReadsInt w .u8 A l.length l) (y : l.length * 1 ≤ 140737488351232) (hw : ∀ x ∈ l, (Lit.int .u8 x).wf = true) (hc : l.length ≤ cap) (z : Int) (wz : (Lit.int .u8 z).wf = true)
    (B : Option Addr) (cap2 : Nat) (l2 : List Int) (hr2 : ReadsInt w .u8 B l2.length l2) (y2 : l2.length * 1 ≤ 140737488351232) (hw2 : ∀ x ∈ l2, (Lit.int .u8 x).wf = true) (hc2 : l2.length ≤ cap2) :
    Calls Try.prog 4 #[.slice A l.length cap, .int .u8 z, .slice B l2.length cap2] w fun e w' => e = .returned (.bool true) ∧ Below w.heap.size w w' := by
  obtain ⟨h1, h2⟩ := bounds_u8 wz
  exact row_any A cap l z (by omega) B cap2 l2 w hr hw hr2 hw2 (by omega)
end Go.Proofs.Ytdchcggllcgokaa.U

namespace Go.Proofs.Ytdchcggllcgokaa.U
open Go.RowKit Go.Proofs.Ytdchcggllcgokaa.L Go.Proofs.YtdchcggllcgokaaW.PrintWords
set_option linter.unusedVariables false
set_option linter.unusedSimpArgs false

/-- some bytes, all of the room -/
def Room (b : Nat) (W : World) (A : Option Addr) (c : Nat) : Prop := ∃ zs : List Int, (∀ x ∈ zs, (Lit.int .u8 x).wf = true) ∧ zs.length = c ∧ W.ownsRow b 5 1 (.slice A c c) c (nums .u8 zs)
theorem Room.below {b : Nat} {W W1 : World} {A : Option Addr} {c : Nat} (h : Room b W A c) (hb : Below W.heap.size W W1) : Room b W1 A c := by
  obtain ⟨zs, h1, h2, h3⟩ := h
  exact ⟨zs, h1, h2, pw_own_below h3 hb⟩
theorem Byts.room {b : Nat} {W : World} {A : Option Addr} {ys : List Int} (h : Byts b W A ys.length ys) (hw : ∀ x ∈ ys, (Lit.int .u8 x).wf = true) : Room b W A ys.length := ⟨ys, hw, rfl, h⟩
theorem Room.grown {b : Nat} {W W1 : World} {A : Option Addr} {c : Nat} {g : Option Nat} (h : Room b W A c) (hg : W.grownBy W1 g) (hne : ∀ k, g = some k → k < b) : Room b W1 A c := by
  obtain ⟨zs, h1, h2, h3⟩ := h
  refine ⟨zs, h1, h2, own_other h3 hg ?_⟩
  cases hk : Value.ownBlock (.slice A c c) with
  | none => exact .inl rfl
  | some k =>
    refine .inr fun e => ?_
    have := hne k e.symm
    have := own_base h3 k hk
    omega
theorem spoil_wf {zs : List Int} {c : Int} {q : Nat} (h : ∀ x ∈ zs, (Lit.int .u8 x).wf = true) (hc : 0 ≤ c ∧ c ≤ 255) : ∀ x ∈ zs.set q c, (Lit.int .u8 x).wf = true := fun x hx => by
  rcases List.mem_or_eq_of_mem_set hx with h1 | rfl
  · exact h x h1
  · exact WalkArith.wf_u8 (by omega)
set_option maxRecDepth 100000 in
set_option maxHeartbeats 1000000 in
theorem Spoil_any (b : Nat) (A : Option Addr) (n c : Nat) (hn : n ≤ c) (hc : c ≤ 9223372036854775807) (by_ : Int) (hby : 0 ≤ by_ ∧ by_ ≤ 255) (w : World) (h : Room b w A c) :
    Calls Try.prog 39 #[.slice A n c, .int .u8 by_] w fun e w' => e = .returned (.tuple #[]) ∧ w.grownBy w' (Value.ownBlock (.slice A c c)) := by
  have H := Lib.hid h
  obtain ⟨b0, b1⟩ := hby
  clear h
  go_enter Try.func39, Try.ntmps39
  go_wp2
  go_loopw [5] (fun i wr => ∃ q : Nat, q ≤ c ∧ i = .int .i64 q ∧ Hid (Room b wr A c) ∧ Hid (w.grownBy wr (Value.ownBlock (.slice A c c)))) (fun i _ => c - (intOf i).toNat)
  case atStart => exact ⟨0, Nat.zero_le _, rfl, H, Lib.hid ⟨rfl, rfl, rfl, Nat.le_refl _, fun _ _ _ => rfl⟩⟩
  case round =>
    obtain ⟨q, hq, rfl, HR, HG⟩ := hrel
    by_cases hlt : q < c
    · obtain ⟨zs, hw, hl, ho⟩ := HR.out
      obtain ⟨g, hA⟩ : ∃ g, A = some ⟨g, 0, none⟩ := by
        rcases ho.2 with ⟨he, h0⟩ | ⟨g, cap, cur, he, _⟩
        · omega
        · injection he with he; exact ⟨g, he⟩
      subst hA
      obtain ⟨o1, o2⟩ := own_at' ho q hlt
      have hx : 0 ≤ rd zs (q : Int) ∧ rd zs (q : Int) < 256 := rd_byte hw q
      obtain ⟨x, hx0⟩ : ∃ x, x = rd zs (q : Int) := ⟨_, rfl⟩
      rw [← hx0] at o1 hx
      have HO := Lib.hid ho
      have HW := Lib.hid hw
      have HL := Lib.hid hl
      obtain ⟨y, hy⟩ : ∃ y, y = (x + by_) % 256 := ⟨_, rfl⟩
      have hy1 : 0 ≤ y ∧ y ≤ 255 := by omega
      have e1 : IntKind.u8.wrap (x + by_) = y := by rw [hy]; simp [IntKind.wrap, IntKind.signed, IntKind.bits]
      have e2 : (x + by_) % 256 = y := hy.symm
      clear ho hw hl hx0 hy
      go_wp2
      go_roundw
      case rel =>
        refine ⟨q + 1, by omega, by go_num, Lib.hid ⟨zs.set q y, spoil_wf HW.out hy1, by rw [List.length_set]; exact HL.out, ?_⟩, Lib.hid ?_⟩
        · have h := (own_store HO.out (q : Int) y).1
          rwa [Int.toNat_natCast] at h
        · have h := (own_store HO.out (q : Int) y).2
          rw [Int.toNat_natCast] at h
          have h0 := HG.out
          exact ⟨h.os.trans h0.os, h.tape.trans h0.tape, h.output.trans h0.output, Nat.le_trans h0.size h.size, fun k hk hne => (h.block k (Nat.lt_of_lt_of_le hk h0.size) hne).trans (h0.block k hk hne)⟩
      case measure => simp [intOf]; omega
    · obtain rfl : q = c := by omega
      go_wp2
      first | go_end0 | go_ret
      exact ⟨rfl, HG.out⟩
end Go.Proofs.Ytdchcggllcgokaa.U
