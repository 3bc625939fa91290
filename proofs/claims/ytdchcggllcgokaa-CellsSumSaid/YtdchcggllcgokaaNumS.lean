/-
  Chapter 01's functions: each call by one plain function of its arguments.
-/
import Derived.Test.YtdchcggllcgokaaNum10
import Derived.Test.YtdchcggllcgokaaLeft
namespace Go.Proofs.Ytdchcggllcgokaa.U
open Go.RowKit Go.Proofs.Ytdchcggllcgokaa.L Go.Proofs.YtdchcggllcgokaaW.PrintWords
set_option linter.unusedVariables false
set_option linter.unusedSimpArgs false

/-- a row of bytes of a call's own -/
def Byts (b : Nat) (W : World) (A : Option Addr) (c : Nat) (ys : List Int) : Prop := W.ownsRow b 5 1 (.slice A ys.length c) ys.length (nums .u8 ys)
theorem Byts.reads {b : Nat} {W : World} {A : Option Addr} {c : Nat} {ys : List Int} (h : Byts b W A c ys) : ReadsInt W .u8 A ys.length ys := own_reads' h
theorem Byts.below {b : Nat} {W W1 : World} {A : Option Addr} {c : Nat} {ys : List Int} (h : Byts b W A c ys) (hb : Below W.heap.size W W1) : Byts b W1 A c ys := pw_own_below h hb
theorem Byts.none_ (b : Nat) (W : World) : Byts b W none 0 [] := own_nil W b _ 1
theorem Byts.le {b : Nat} {W : World} {A : Option Addr} {c : Nat} {ys : List Int} (h : Byts b W A c ys) : ys.length ≤ c := own_le h
theorem Byts.cap {b : Nat} {W : World} {A : Option Addr} {c : Nat} {ys : List Int} (h : Byts b W A c ys) : c ≤ 9223372036854775807 := by
  rcases h.2 with ⟨he, h1⟩ | ⟨g, cap, cur, he, _, _, h1, h2, _⟩
  · injection he with _ _ h3; omega
  · injection he with _ _ h3; simp only [maxLen] at h2; omega
theorem byts_of {b : Nat} {W : World} {v : Value} {n : Nat} {ys : List Int} (ho : W.ownsRow b 5 1 v n (nums .u8 ys)) (hl : ys.length = n) : ∃ A c, v = .slice A ys.length c ∧ Byts b W A c ys := by
  obtain ⟨A, c, rfl⟩ := own_slice ho
  subst hl
  exact ⟨A, c, rfl, ho⟩
theorem drew_below {w w' : World} (h : ∃ j, w' = w.drewN j) : Below w.heap.size w w' := by
  obtain ⟨j, rfl⟩ := h
  exact below_drewN (Below.refl _ _) j

def puts (n : Nat) (s : Int) : List Int × Int := if s < 1 ∨ 8 < s ∨ 256 ^ s.toNat ≤ n then ([], 2) else (putb n s.toNat, 0)
theorem puts_ok {n s : Nat} (h1 : 1 ≤ s) (h2 : s ≤ 8) (h : n < 256 ^ s) : puts n s = (putb n s, 0) := by
  rw [puts, if_neg (by simp; omega)]; simp
theorem puts_bad {n s : Nat} (h : 256 ^ s ≤ n) : puts n s = ([], 2) := by
  rw [puts, if_pos (by simp; omega)]
def PutP (b : Nat) (n : Nat) (s : Int) (e : Ending) (W : World) : Prop := ∃ A c, e = .returned (.tuple #[.slice A (puts n s).1.length c, .int .i64 (puts n s).2]) ∧ Byts b W A c (puts n s).1
theorem Put_all (n : Nat) (hn : n < 18446744073709551616) (s : Int) (hs : -9223372036854775808 ≤ s ∧ s ≤ 9223372036854775807) (w : World) :
    Calls Try.prog 42 #[.int .u64 (n : Int), .int .i64 s] w fun e w' => PutP w.heap.size n s e w' ∧ Below w.heap.size w w' := by
  by_cases h : s < 1 ∨ 8 < s
  · refine (Put_err n hn s hs h w).mono ?_
    rintro e w' ⟨rfl, rfl⟩
    have e1 : puts n s = ([], 2) := if_pos (by omega)
    exact ⟨⟨none, 0, by rw [e1]; rfl, by rw [e1]; exact Byts.none_ _ _⟩, Below.refl _ _⟩
  · obtain ⟨k, rfl⟩ : ∃ k : Nat, s = k := ⟨s.toNat, by omega⟩
    by_cases hk : 256 ^ k ≤ n
    · have hk8 : k < 8 := by
        refine Nat.lt_of_not_le fun h8 => ?_
        have h3 : 256 ^ 8 ≤ 256 ^ k := Nat.pow_le_pow_right (by decide) h8
        omega
      refine (Put_big n hn k (by omega) hk8 hk w).mono ?_
      rintro e w' ⟨rfl, rfl⟩
      exact ⟨⟨none, 0, by rw [puts_bad hk]; rfl, by rw [puts_bad hk]; exact Byts.none_ _ _⟩, Below.refl _ _⟩
    · refine (Put_ok n hn k (by omega) (by omega) (by omega) w).mono ?_
      rintro e w' ⟨g, rfl, ho, hb⟩
      have e1 : puts n k = (putb n k, 0) := puts_ok (by omega) (by omega) (by omega)
      refine ⟨⟨_, _, by rw [e1, putb_length], ?_⟩, hb⟩
      rw [e1, Byts, putb_length]
      exact ho
theorem rPut_all (n : Nat) (hn : n < 18446744073709551616) (s : Int) (hs : -9223372036854775808 ≤ s ∧ s ≤ 9223372036854775807) (w : World) :
    Calls Try.prog 43 #[.int .u64 (n : Int), .int .i64 s] w fun e w' => PutP w.heap.size n s e w' ∧ Below w.heap.size w w' := by
  by_cases h : s < 1 ∨ 8 < s
  · refine (rPut_err n hn s hs h w).mono ?_
    rintro e w' ⟨rfl, rfl⟩
    have e1 : puts n s = ([], 2) := if_pos (by omega)
    exact ⟨⟨none, 0, by rw [e1]; rfl, by rw [e1]; exact Byts.none_ _ _⟩, Below.refl _ _⟩
  · obtain ⟨k, rfl⟩ : ∃ k : Nat, s = k := ⟨s.toNat, by omega⟩
    refine (rPut_any n hn k (by omega) (by omega) w).mono ?_
    rintro e w' ⟨⟨hk, rfl⟩ | ⟨hk, v, rfl, ho⟩, hb⟩
    · exact ⟨⟨none, 0, by rw [puts_bad hk]; rfl, by rw [puts_bad hk]; exact Byts.none_ _ _⟩, hb⟩
    · have e1 : puts n k = (putb n k, 0) := puts_ok (by omega) (by omega) hk
      obtain ⟨A, c, rfl, h1⟩ := byts_of ho (putb_length _ _)
      exact ⟨⟨A, c, by rw [e1], by rw [e1]; exact h1⟩, hb⟩
theorem Get_b (A : Option Addr) (cap : Nat) (xs : List Int) (hw : ∀ x ∈ xs, (Lit.int .u8 x).wf = true) (a s : Int) (ha : -9223372036854775808 ≤ a ∧ a ≤ 9223372036854775807) (hs : -9223372036854775808 ≤ s ∧ s ≤ 9223372036854775807) (hl : xs.length ≤ cap) (hc : cap ≤ 9223372036854775807) (w : World) (hr : ReadsInt w .u8 A xs.length xs) :
    Calls Try.prog 44 #[.slice A xs.length cap, .int .i64 a, .int .i64 s] w fun e w' => e = .returned (.tuple #[.int .u64 ((gets xs a s).1 : Int), .int .i64 (gets xs a s).2]) ∧ Below w.heap.size w w' :=
  (Get_any A cap xs hw a s ha hs hl hc w hr).mono fun _ _ ⟨h1, h2⟩ => ⟨h1, drew_below h2⟩
theorem rGet_b (A : Option Addr) (cap : Nat) (xs : List Int) (hw : ∀ x ∈ xs, (Lit.int .u8 x).wf = true) (a s : Int) (ha : -9223372036854775808 ≤ a ∧ a ≤ 9223372036854775807) (hs : -9223372036854775808 ≤ s ∧ s ≤ 9223372036854775807) (hl : xs.length ≤ cap) (hc : cap ≤ 9223372036854775807) (w : World) (hr : ReadsInt w .u8 A xs.length xs) :
    Calls Try.prog 45 #[.slice A xs.length cap, .int .i64 a, .int .i64 s] w fun e w' => e = .returned (.tuple #[.int .u64 ((gets xs a s).1 : Int), .int .i64 (gets xs a s).2]) ∧ Below w.heap.size w w' :=
  (rGet_any A cap xs hw a s ha hs hl hc w hr).mono fun _ _ ⟨h1, h2⟩ => ⟨h1, drew_below h2⟩

open Classical in
/-- numbers of a width, one behind the other -/
noncomputable def bitss (xs : List Int) (s : Int) : List Int × Int :=
  if s < 1 ∨ 8 < s ∨ ∃ i, i < xs.length ∧ 2 ^ s.toNat ≤ val xs i then ([], 2) else (V.bytes (V.part (val xs) s.toNat xs.length) ((xs.length * s.toNat + 7) / 8), 0)
def BitsP (b : Nat) (xs : List Int) (s : Int) (e : Ending) (W : World) : Prop := ∃ A c, e = .returned (.tuple #[.slice A (bitss xs s).1.length c, .int .i64 (bitss xs s).2]) ∧ Byts b W A c (bitss xs s).1
theorem bits_err {b : Nat} {xs : List Int} {s : Int} {W : World} (h : bitss xs s = ([], 2)) : BitsP b xs s (.returned (.tuple #[.slice none 0 0, .int .i64 2])) W :=
  ⟨none, 0, by rw [h]; rfl, by rw [h]; exact Byts.none_ _ _⟩
theorem bits_fine {b : Nat} {xs : List Int} {s : Nat} {W : World} {v : Value} (h1 : 1 ≤ s) (h2 : s ≤ 8) (h : ∀ i, i < xs.length → val xs i < 2 ^ s) (ho : W.ownsRow b 5 1 v ((xs.length * s + 7) / 8) (nums .u8 (V.bytes (V.part (val xs) s xs.length) ((xs.length * s + 7) / 8)))) :
    BitsP b xs s (.returned (.tuple #[v, .int .i64 0])) W := by
  have e1 : bitss xs s = (V.bytes (V.part (val xs) s xs.length) ((xs.length * s + 7) / 8), 0) := by
    rw [bitss, if_neg]
    · simp
    · rintro (h3 | h3 | ⟨i, hi, h4⟩)
      · omega
      · omega
      · have := h i hi; rw [Int.toNat_natCast] at h4; omega
  obtain ⟨A, c, rfl, h3⟩ := byts_of ho (V.bytes_length _ _)
  exact ⟨A, c, by rw [e1], by rw [e1]; exact h3⟩
theorem bits_two {xs : List Int} {s : Nat} (h : ∃ i, i < xs.length ∧ 2 ^ s ≤ val xs i) : bitss xs s = ([], 2) := by
  rw [bitss, if_pos (.inr (.inr (by rw [Int.toNat_natCast]; exact h)))]
/-- num.Bits's row, with nothing behind it -/
def BitsF (b : Nat) (xs : List Int) (s : Int) (e : Ending) (W : World) : Prop := ∃ A, e = .returned (.tuple #[.slice A (bitss xs s).1.length (bitss xs s).1.length, .int .i64 (bitss xs s).2]) ∧ Byts b W A (bitss xs s).1.length (bitss xs s).1
theorem bits_err' {b : Nat} {xs : List Int} {s : Int} {W : World} (h : bitss xs s = ([], 2)) : BitsF b xs s (.returned (.tuple #[.slice none 0 0, .int .i64 2])) W :=
  ⟨none, by rw [h]; rfl, by rw [h]; exact Byts.none_ _ _⟩
theorem bits_fine' {b : Nat} {xs : List Int} {s m : Nat} {W : World} {A : Option Addr} (hm : m = (xs.length * s + 7) / 8) (h1 : 1 ≤ s) (h2 : s ≤ 8) (h : ∀ i, i < xs.length → val xs i < 2 ^ s) (ho : W.ownsRow b 5 1 (.slice A m m) m (nums .u8 (V.bytes (V.part (val xs) s xs.length) m))) :
    BitsF b xs s (.returned (.tuple #[.slice A m m, .int .i64 0])) W := by
  have e1 : bitss xs s = (V.bytes (V.part (val xs) s xs.length) m, 0) := by
    rw [bitss, if_neg]
    · simp [hm]
    · rintro (h3 | h3 | ⟨i, hi, h4⟩)
      · omega
      · omega
      · have := h i hi; rw [Int.toNat_natCast] at h4; omega
  refine ⟨A, by rw [e1, V.bytes_length], ?_⟩
  rw [e1, Byts, V.bytes_length]
  exact ho
theorem BitsF.p {b : Nat} {xs : List Int} {s : Int} {e : Ending} {W : World} (h : BitsF b xs s e W) : BitsP b xs s e W := by
  obtain ⟨A, h1, h2⟩ := h
  exact ⟨A, _, h1, h2⟩
theorem Bits_full (A : Option Addr) (cap : Nat) (xs : List Int) (hw : ∀ x ∈ xs, (Lit.int .u8 x).wf = true) (s : Int) (hs : -9223372036854775808 ≤ s ∧ s ≤ 9223372036854775807) (hl : xs.length ≤ 1048576) (w : World) (hr : ReadsInt w .u8 A xs.length xs) :
    Calls Try.prog 34 #[.slice A xs.length cap, .int .i64 s] w fun e w' => BitsF w.heap.size xs s e w' ∧ Below w.heap.size w w' := by
  by_cases h : 1 ≤ s ∧ s ≤ 8
  · obtain ⟨k, rfl⟩ : ∃ k : Nat, s = k := ⟨s.toNat, by omega⟩
    refine (Bits_any A cap xs hw k (by omega) (by omega) hl w hr).mono ?_
    rintro e w' ⟨⟨hx, rfl⟩ | ⟨hx, g, rfl, ho⟩, hb⟩
    · exact ⟨bits_err' (bits_two hx), hb⟩
    · exact ⟨bits_fine' rfl (by omega) (by omega) hx ho, hb⟩
  · refine (Bits_width A cap xs.length s hs h w).mono ?_
    rintro e w' ⟨rfl, rfl⟩
    exact ⟨bits_err' (if_pos (by omega)), Below.refl _ _⟩
theorem Bits_all (A : Option Addr) (cap : Nat) (xs : List Int) (hw : ∀ x ∈ xs, (Lit.int .u8 x).wf = true) (s : Int) (hs : -9223372036854775808 ≤ s ∧ s ≤ 9223372036854775807) (hl : xs.length ≤ 1048576) (w : World) (hr : ReadsInt w .u8 A xs.length xs) :
    Calls Try.prog 34 #[.slice A xs.length cap, .int .i64 s] w fun e w' => BitsP w.heap.size xs s e w' ∧ Below w.heap.size w w' := by
  exact (Bits_full A cap xs hw s hs hl w hr).mono fun _ _ ⟨h1, h2⟩ => ⟨h1.p, h2⟩
theorem rBits_all (A : Option Addr) (cap : Nat) (xs : List Int) (hw : ∀ x ∈ xs, (Lit.int .u8 x).wf = true) (s : Int) (hs : -9223372036854775808 ≤ s ∧ s ≤ 9223372036854775807) (hl : xs.length ≤ 1048576) (w : World) (hr : ReadsInt w .u8 A xs.length xs) :
    Calls Try.prog 35 #[.slice A xs.length cap, .int .i64 s] w fun e w' => BitsP w.heap.size xs s e w' ∧ Below w.heap.size w w' := by
  by_cases h : 1 ≤ s ∧ s ≤ 8
  · obtain ⟨k, rfl⟩ : ∃ k : Nat, s = k := ⟨s.toNat, by omega⟩
    refine (rBits_any A cap xs hw k (by omega) (by omega) hl w hr).mono ?_
    rintro e w' ⟨⟨hx, rfl⟩ | ⟨hx, v, rfl, ho⟩, hb⟩
    · exact ⟨bits_err (bits_two hx), hb⟩
    · exact ⟨bits_fine (by omega) (by omega) hx ho, hb⟩
  · refine (rBits_width A cap xs.length s hs h w).mono ?_
    rintro e w' ⟨rfl, rfl⟩
    exact ⟨bits_err (if_pos (by omega)), Below.refl _ _⟩

/-- numbers of a width that are read -/
def unbs (xs : List Int) (s m : Int) : List Int × Int :=
  if s < 1 ∨ 8 < s ∨ m < 0 ∨ 1048576 < m then ([], 2) else if 8 * xs.length < m.toNat * s.toNat then ([], 4) else (items (val xs) s.toNat m.toNat, 0)
def UnbP (b : Nat) (xs : List Int) (s m : Int) (e : Ending) (W : World) : Prop := ∃ A c, e = .returned (.tuple #[.slice A (unbs xs s m).1.length c, .int .i64 (unbs xs s m).2]) ∧ Byts b W A c (unbs xs s m).1
theorem unb_err {b : Nat} {xs : List Int} {s m k : Int} {W : World} (h : unbs xs s m = ([], k)) : UnbP b xs s m (.returned (.tuple #[.slice none 0 0, .int .i64 k])) W :=
  ⟨none, 0, by rw [h]; rfl, by rw [h]; exact Byts.none_ _ _⟩
theorem unbs_short {xs : List Int} {s m : Nat} (h1 : 1 ≤ s) (h2 : s ≤ 8) (hm : m ≤ 1048576) (h : 8 * xs.length < m * s) : unbs xs s m = ([], 4) := by
  rw [unbs, if_neg (by omega), Int.toNat_natCast, Int.toNat_natCast, if_pos h]
theorem unbs_ok {xs : List Int} {s m : Nat} (h1 : 1 ≤ s) (h2 : s ≤ 8) (hm : m ≤ 1048576) (h : m * s ≤ 8 * xs.length) : unbs xs s m = (items (val xs) s m, 0) := by
  rw [unbs, if_neg (by omega), Int.toNat_natCast, Int.toNat_natCast, if_neg (by omega)]
theorem unb_fine {b : Nat} {xs : List Int} {s m : Nat} {W : World} {v : Value} (h : unbs xs s m = (items (val xs) s m, 0)) (ho : W.ownsRow b 5 1 v m (nums .u8 (items (val xs) s m))) :
    UnbP b xs s m (.returned (.tuple #[v, .int .i64 0])) W := by
  obtain ⟨A, c, rfl, h3⟩ := byts_of ho (items_length _ _ _)
  exact ⟨A, c, by rw [h], by rw [h]; exact h3⟩
/-- num.Unbits's row, with nothing behind it -/
def UnbF (b : Nat) (xs : List Int) (s m : Int) (e : Ending) (W : World) : Prop := ∃ A, e = .returned (.tuple #[.slice A (unbs xs s m).1.length (unbs xs s m).1.length, .int .i64 (unbs xs s m).2]) ∧ Byts b W A (unbs xs s m).1.length (unbs xs s m).1
theorem unb_err' {b : Nat} {xs : List Int} {s m k : Int} {W : World} (h : unbs xs s m = ([], k)) : UnbF b xs s m (.returned (.tuple #[.slice none 0 0, .int .i64 k])) W :=
  ⟨none, by rw [h]; rfl, by rw [h]; exact Byts.none_ _ _⟩
theorem unb_fine' {b : Nat} {xs : List Int} {s m : Nat} {W : World} {A : Option Addr} (h : unbs xs s m = (items (val xs) s m, 0)) (ho : W.ownsRow b 5 1 (.slice A m m) m (nums .u8 (items (val xs) s m))) :
    UnbF b xs s m (.returned (.tuple #[.slice A m m, .int .i64 0])) W := by
  refine ⟨A, by rw [h, items_length], ?_⟩
  rw [h, Byts, items_length]
  exact ho
theorem UnbF.p {b : Nat} {xs : List Int} {s m : Int} {e : Ending} {W : World} (h : UnbF b xs s m e W) : UnbP b xs s m e W := by
  obtain ⟨A, h1, h2⟩ := h
  exact ⟨A, _, h1, h2⟩
theorem Unbits_full (A : Option Addr) (cap : Nat) (xs : List Int) (hw : ∀ x ∈ xs, (Lit.int .u8 x).wf = true) (s m : Int) (hs : -9223372036854775808 ≤ s ∧ s ≤ 9223372036854775807) (hm : -9223372036854775808 ≤ m ∧ m ≤ 9223372036854775807) (hl : xs.length ≤ 140737488355328) (w : World) (hr : ReadsInt w .u8 A xs.length xs) :
    Calls Try.prog 36 #[.slice A xs.length cap, .int .i64 s, .int .i64 m] w fun e w' => UnbF w.heap.size xs s m e w' ∧ Below w.heap.size w w' := by
  by_cases h : s < 1 ∨ 8 < s ∨ m < 0 ∨ 1048576 < m
  · refine (Unbits_bad A cap xs.length s m hs hm h w).mono ?_
    rintro e w' ⟨rfl, rfl⟩
    exact ⟨unb_err' (if_pos h), Below.refl _ _⟩
  · obtain ⟨k, rfl⟩ : ∃ k : Nat, s = k := ⟨s.toNat, by omega⟩
    obtain ⟨j, rfl⟩ : ∃ j : Nat, m = j := ⟨m.toNat, by omega⟩
    by_cases h2 : 8 * xs.length < j * k
    · refine (Unbits_short A cap xs.length k j (by omega) (by omega) (by omega) (by omega) h2 w).mono ?_
      rintro e w' ⟨rfl, rfl⟩
      exact ⟨unb_err' (unbs_short (by omega) (by omega) (by omega) h2), Below.refl _ _⟩
    · refine (Unbits_ok A cap xs hw k j (by omega) (by omega) (by omega) (by omega) w hr).mono ?_
      rintro e w' ⟨g, rfl, ho, hb⟩
      exact ⟨unb_fine' (unbs_ok (by omega) (by omega) (by omega) (by omega)) ho, hb⟩
theorem Unbits_all (A : Option Addr) (cap : Nat) (xs : List Int) (hw : ∀ x ∈ xs, (Lit.int .u8 x).wf = true) (s m : Int) (hs : -9223372036854775808 ≤ s ∧ s ≤ 9223372036854775807) (hm : -9223372036854775808 ≤ m ∧ m ≤ 9223372036854775807) (hl : xs.length ≤ 140737488355328) (w : World) (hr : ReadsInt w .u8 A xs.length xs) :
    Calls Try.prog 36 #[.slice A xs.length cap, .int .i64 s, .int .i64 m] w fun e w' => UnbP w.heap.size xs s m e w' ∧ Below w.heap.size w w' := by
  exact (Unbits_full A cap xs hw s m hs hm hl w hr).mono fun _ _ ⟨h1, h2⟩ => ⟨h1.p, h2⟩
theorem rUnbits_all (A : Option Addr) (cap : Nat) (xs : List Int) (hw : ∀ x ∈ xs, (Lit.int .u8 x).wf = true) (s m : Int) (hs : -9223372036854775808 ≤ s ∧ s ≤ 9223372036854775807) (hm : -9223372036854775808 ≤ m ∧ m ≤ 9223372036854775807) (hl : xs.length ≤ 140737488355328) (w : World) (hr : ReadsInt w .u8 A xs.length xs) :
    Calls Try.prog 37 #[.slice A xs.length cap, .int .i64 s, .int .i64 m] w fun e w' => UnbP w.heap.size xs s m e w' ∧ Below w.heap.size w w' := by
  by_cases h : s < 1 ∨ 8 < s ∨ m < 0 ∨ 1048576 < m
  · refine (rUnbits_bad A cap xs.length s m hs hm h w).mono ?_
    rintro e w' ⟨rfl, rfl⟩
    exact ⟨unb_err (if_pos h), Below.refl _ _⟩
  · obtain ⟨k, rfl⟩ : ∃ k : Nat, s = k := ⟨s.toNat, by omega⟩
    obtain ⟨j, rfl⟩ : ∃ j : Nat, m = j := ⟨m.toNat, by omega⟩
    by_cases h2 : 8 * xs.length < j * k
    · refine (rUnbits_short A cap xs.length k j (by omega) (by omega) (by omega) hl h2 w).mono ?_
      rintro e w' ⟨rfl, rfl⟩
      exact ⟨unb_err (unbs_short (by omega) (by omega) (by omega) h2), Below.refl _ _⟩
    · refine (rUnbits_ok A cap xs hw k j (by omega) (by omega) (by omega) (by omega) hl w hr).mono ?_
      rintro e w' ⟨v, rfl, ho, hb⟩
      exact ⟨unb_fine (unbs_ok (by omega) (by omega) (by omega) (by omega)) ho, hb⟩
end Go.Proofs.Ytdchcggllcgokaa.U
