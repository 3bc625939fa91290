/-
  note.May, ashlarref13.May; slots; bodies: plain words and walks. note.body, note.Put: the walks. note.Put: the walk. note.Put of a note that may not be; ashlarref13.Put: the walks. Notes: what a sealed sector's body tells; plain laws. note.Get: the walk. note.Get: the walks joined. note.Slot and its twin. ashlarref13.Get: the walk. ashlarref13.Get: the walks joined.
-/
import Derived.Test.YtdchcggllcgokaaSealLaw1
import Derived.Test.YtdchcggllcgokaaNumLaw2
import Derived.Deep.RegionHeld3
import Derived.Deep.MidRow
import Derived.Test.YtdchcggllcgokaaSealM
namespace Go.Proofs.Ytdchcggllcgokaa.T
open Go.RowKit Go.Proofs.Ytdchcggllcgokaa.L Go.Proofs.Ytdchcggllcgokaa.U Go.Proofs.Ytdchcggllcgokaa.R Go.Proofs.Ytdchcggllcgokaa.E Go.Proofs.YtdchcggllcgokaaW.PrintWords
set_option linter.unusedVariables false
set_option linter.unusedSimpArgs false

/-- a note: its number, place, cells, sum -/
structure Nt where
  s : Nat
  a : Nat
  c : Int
  m : Nat
def Nt.ok (n : Nt) : Prop := n.s < 18446744073709551616 ∧ n.a < 18446744073709551616 ∧ -9223372036854775808 ≤ n.c ∧ n.c ≤ 9223372036854775807 ∧ n.m < 4294967296
def noteC (s a : Nat) (c : Int) (m : Nat) : Array Value := #[.int .u64 (s : Int), .int .u64 (a : Int), .int .i64 c, .int .u32 (m : Int)]
def mayN (s a : Nat) (c : Int) : Bool := decide (1 ≤ s ∧ s ≤ 4611686018427387904 ∧ a ≤ 4611686018427387904 ∧ 1 ≤ c ∧ c ≤ 32)
set_option maxRecDepth 100000 in
set_option maxHeartbeats 1000000 in
theorem May_any (s a : Nat) (c : Int) (m : Nat) (hs : s < 18446744073709551616) (ha : a < 18446744073709551616) (hc : -9223372036854775808 ≤ c ∧ c ≤ 9223372036854775807) (hm : m < 4294967296) (w : World) :
    Calls Try.prog 79 #[.agg #[.int .u64 (s : Int), .int .u64 (a : Int), .int .i64 c, .int .u32 (m : Int)]] w fun e w' => e = .returned (.bool (mayN s a c)) ∧ Below w.heap.size w w' := by
  obtain ⟨c1, c2⟩ := hc
  rcases (by omega : s < 1 ∨ (1 ≤ s ∧ 4611686018427387904 < s) ∨ (1 ≤ s ∧ s ≤ 4611686018427387904 ∧ 4611686018427387904 < a) ∨ (1 ≤ s ∧ s ≤ 4611686018427387904 ∧ a ≤ 4611686018427387904 ∧ c < 1) ∨ (1 ≤ s ∧ s ≤ 4611686018427387904 ∧ a ≤ 4611686018427387904 ∧ 1 ≤ c ∧ 32 < c) ∨ (1 ≤ s ∧ s ≤ 4611686018427387904 ∧ a ≤ 4611686018427387904 ∧ 1 ≤ c ∧ c ≤ 32)) with h1 | ⟨h1, h2⟩ | ⟨h1, h2, h3⟩ | ⟨h1, h2, h3, h4⟩ | ⟨h1, h2, h3, h4, h5⟩ | ⟨h1, h2, h3, h4, h5⟩
  all_goals
    go_enter Try.func79, Try.ntmps79
    go_wp2
    go_ret
    exact ⟨ret_b (by rw [Bool.eq_iff_iff]; simp [mayN]; omega), (Below.refl _ _).alloc (Nat.le_refl _) _⟩
set_option maxRecDepth 100000 in
set_option maxHeartbeats 1000000 in
theorem rMay_any (s a : Nat) (c : Int) (m : Nat) (hs : s < 18446744073709551616) (ha : a < 18446744073709551616) (hc : -9223372036854775808 ≤ c ∧ c ≤ 9223372036854775807) (hm : m < 4294967296) (w : World) :
    Calls Try.prog 80 #[.agg #[.int .u64 (s : Int), .int .u64 (a : Int), .int .i64 c, .int .u32 (m : Int)]] w fun e w' => e = .returned (.bool (mayN s a c)) ∧ Below w.heap.size w w' := by
  obtain ⟨c1, c2⟩ := hc
  rcases (by omega : s < 1 ∨ (1 ≤ s ∧ 4611686018427387904 < s) ∨ (1 ≤ s ∧ s ≤ 4611686018427387904 ∧ 4611686018427387904 < a) ∨ (1 ≤ s ∧ s ≤ 4611686018427387904 ∧ a ≤ 4611686018427387904 ∧ c < 1) ∨ (1 ≤ s ∧ s ≤ 4611686018427387904 ∧ a ≤ 4611686018427387904 ∧ 1 ≤ c ∧ 32 < c) ∨ (1 ≤ s ∧ s ≤ 4611686018427387904 ∧ a ≤ 4611686018427387904 ∧ 1 ≤ c ∧ c ≤ 32)) with h1 | ⟨h1, h2⟩ | ⟨h1, h2, h3⟩ | ⟨h1, h2, h3, h4⟩ | ⟨h1, h2, h3, h4, h5⟩ | ⟨h1, h2, h3, h4, h5⟩
  all_goals
    go_enter Try.func80, Try.ntmps80
    go_wp2
    go_ret
    exact ⟨ret_b (by rw [Bool.eq_iff_iff]; simp [mayN]; omega), (Below.refl _ _).alloc (Nat.le_refl _) _⟩
end Go.Proofs.Ytdchcggllcgokaa.T

namespace Go.Proofs.Ytdchcggllcgokaa.T
open Go.RowKit Go.Proofs.Ytdchcggllcgokaa.L Go.Proofs.Ytdchcggllcgokaa.U Go.Proofs.Ytdchcggllcgokaa.R Go.Proofs.Ytdchcggllcgokaa.E Go.Proofs.YtdchcggllcgokaaW.PrintWords
set_option linter.unusedVariables false
set_option linter.unusedSimpArgs false

def nbody (a c m : Nat) : List Int := putb a 8 ++ putb c 2 ++ putb m 4
theorem nbody_length (a c m : Nat) : (nbody a c m).length = 14 := by simp [nbody, putb_length]
theorem nbody_wf (a c m : Nat) : Wf8 (nbody a c m) := wf_append (wf_append (putb_wf _ _) (putb_wf _ _)) (putb_wf _ _)
theorem info_note : (Try.prog.info? 89).map (·.size) = some 4 := by kernel_rfl
theorem under_note : (Try.prog.underlying 89).isSome = true := by kernel_rfl
set_option maxRecDepth 100000 in
set_option maxHeartbeats 1000000 in
theorem body_any (s a c m : Nat) (hs : s < 18446744073709551616) (ha : a < 18446744073709551616) (hc : c ≤ 32) (hm : m < 4294967296) (w : World) :
    Calls Try.prog 131 #[.agg #[.int .u64 (s : Int), .int .u64 (a : Int), .int .i64 (c : Int), .int .u32 (m : Int)]] w fun e w' => (∃ A k, e = .returned (.slice A 14 k) ∧ Byts w.heap.size w' A k (nbody a c m)) ∧ Below w.heap.size w w' := by
  obtain ⟨X, hX⟩ : ∃ X, X = putb a 8 := ⟨_, rfl⟩
  obtain ⟨Y, hY⟩ : ∃ Y, Y = putb c 2 := ⟨_, rfl⟩
  obtain ⟨V, hV⟩ : ∃ V, V = putb m 4 := ⟨_, rfl⟩
  have P1 := Lib.hid (put_n (s := 8) ha (by decide) (by rw [puts_ok (by decide) (by decide) (by omega), hX]) : PutN 8 a X 0)
  have P2 := Lib.hid (put_n (s := 2) (n := c) (by omega) (by decide) (by rw [puts_ok (by decide) (by decide) (by omega), hY]) : PutN 2 c Y 0)
  have P3 := Lib.hid (put_n (s := 4) (n := m) (by omega) (by decide) (by rw [puts_ok (by decide) (by decide) (by omega), hV]) : PutN 4 m V 0)
  have hXl : X.length = 8 := by rw [hX, putb_length]
  have hYl : Y.length = 2 := by rw [hY, putb_length]
  have hVl : V.length = 4 := by rw [hV, putb_length]
  have HB0 := Lib.hid (show X ++ Y ++ V = nbody a c m by rw [nbody, hX, hY, hV])
  have H14 := Lib.hid (nbody_length a c m)
  have HL1 := Lib.hid (show (X.length + Y.length) * 1 ≤ 140737488355328 by omega)
  have HL2 := Lib.hid (show ((X ++ Y).length + V.length) * 1 ≤ 140737488355328 by rw [List.length_append]; omega)
  have tokA : True := trivial
  clear hX hY hV hXl hYl hVl
  go_enter Try.func131, Try.ntmps131
  go_wp2_with (first
    | (go_at_call_of 42 (Value.int .i64 8); refine (P1.out _).mono ?_; rintro e w1 ⟨⟨A1, c1, rfl, o1⟩, hb1⟩; have O1 := Lib.hid (own_lower (base' := w.heap.size) o1 (by simp)); have B1 := Lib.hid (below_1 hb1); have hk := bcell hb1; obtain ⟨hkc, hkf⟩ := hk; have e2 : w1.cell? ⟨w.heap.size, 2, none⟩ = some (.int .i64 (c : Int)) := (by rw [hkc _ _ (by simp)]; simp); have e3 : w1.cell? ⟨w.heap.size, 3, none⟩ = some (.int .u32 (m : Int)) := (by rw [hkc _ _ (by simp)]; simp); have z1 : w.heap.size < w1.heap.size := (by have := hb1.size; simp at this; omega); clear o1 hb1 hkc hkf)
    | (go_at_call_of 42 (Value.int .i64 2); refine (P2.out _).mono ?_; rintro e w2 ⟨⟨A2, c2, rfl, o2⟩, hb2⟩; have O2 := Lib.hid o2; replace O1 := Lib.hid (pw_own_below O1.out hb2); replace B1 := Lib.hid (below_ext B1.out hb2); have O1p := Lib.hid O1.out; have e4 : w2.cell? ⟨w.heap.size, 3, none⟩ = some (.int .u32 (m : Int)) := (by rw [(bcell hb2).1 _ _ z1]; exact e3); clear o2 hb2 e2 e3 z1)
    | (go_at_call 42; refine (P3.out _).mono ?_; rintro e w3 ⟨⟨A3, c3, rfl, o3⟩, hb3⟩; have O3 := Lib.hid o3; replace O1 := Lib.hid (pw_own_below O1.out hb3); replace O2 := Lib.hid (O2.out.below hb3); replace B1 := Lib.hid (below_ext B1.out hb3); have N13 := Lib.hid (ne_symm (ne_below (v1 := .slice A3 V.length c3) o3 O1p.out)); clear o3 O1p; have tokA : True := trivial; clear hb3 e4)
    | (at_builtin; have _t := tokA; refine print_append_row (w0 := w) w.heap.size rfl (.tmp 29) (.tmp 30) 22 5 .u8 1 rfl Try.underlying22 info_u8 (by decide) _ X Y A2 Y.length c2 rfl rfl O1.out O2.out.reads B1.out B1.out.size HL1.out ?_; intro v4 w4 ho4 hb4 hg4 hat4; replace O3 := Lib.hid (own_other O3.out hg4 (ne_other N13.out)); have O4 := Lib.hid ho4; replace B1 := Lib.hid hb4; have tokB : True := trivial; clear ho4 hb4 hg4 hat4 _t tokA O1 O2)
    | (at_builtin; have _t := tokB; refine print_append_row (w0 := w) w.heap.size rfl (.tmp 31) (.tmp 32) 22 5 .u8 1 rfl Try.underlying22 info_u8 (by decide) _ (X ++ Y) V A3 V.length c3 rfl rfl O4.out (own_reads' O3.out) B1.out B1.out.size HL2.out ?_; intro v5 w5 ho5 hb5 hg5 hat5; rw [HB0.out] at ho5; have O5 := Lib.hid ho5; replace B1 := Lib.hid hb5; clear ho5 hb5 hg5 hat5 _t tokB O4 O3))
  go_ret
  obtain ⟨A5, c5, he, h5⟩ := byts_of O5.out rfl
  rw [H14.out] at he
  exact ⟨⟨A5, c5, by rw [← he]; rfl, h5⟩, B1.out⟩
end Go.Proofs.Ytdchcggllcgokaa.T

namespace Go.Proofs.Ytdchcggllcgokaa.T
open Go.RowKit Go.Proofs.Ytdchcggllcgokaa.L Go.Proofs.Ytdchcggllcgokaa.U Go.Proofs.Ytdchcggllcgokaa.R Go.Proofs.Ytdchcggllcgokaa.E Go.Proofs.YtdchcggllcgokaaW.PrintWords
set_option linter.unusedVariables false
set_option linter.unusedSimpArgs false

theorem row_range {T : TypeId} {W : World} {g : Nat} {cs : Array Value} (h : Row T W g cs) : W.rangeAt g 0 cs.toList := fun j v hv => by
  rw [Nat.zero_add]; exact h.cell (by simpa using hv)
theorem blk_there {W : World} {g : Nat} {xs : List Int} (h : Blk W g xs) : W.there g 0 64 := fun j hj => by
  rw [Nat.zero_add]
  exact ⟨by rw [h.cell j hj]; rfl, h.2.free⟩
theorem there_below {W W1 : World} {g o n : Nat} (h : W.there g o n) (hg : g < W.heap.size) (hb : Below W.heap.size W W1) : W1.there g o n := fun j hj => by
  obtain ⟨h1, h2⟩ := h j hj
  exact ⟨by rw [hb.cell (p := ⟨g, o + j, none⟩) hg]; exact h1, by rw [hb.frozen (p := ⟨g, o + j, none⟩) hg]; exact h2⟩
theorem below_setCells {B b : Nat} {w : World} (hB : B ≤ b) : ∀ (vs : List Value) (o : Nat) (W : World), Below B w W → Below B w (W.setCells b o vs)
  | [], _, _, h => h
  | v :: r, o, W, h => by
    rw [World.setCells]
    exact below_setCells hB r (o + 1) _ (h.setCell (p := ⟨b, o, none⟩) hB v)
theorem size_setCells {b : Nat} : ∀ (vs : List Value) (o : Nat) (W : World), (W.setCells b o vs).heap.size = W.heap.size
  | [], _, _ => rfl
  | v :: r, o, W => by
    rw [World.setCells, size_setCells r (o + 1)]
    simp [World.setCell]
/-- what the last statement's loads and store ask of a world -/
theorem S_step {w W W1 : World} {n g b : Nat} {v0 v1 v2 v3 : Value} (hg : g < n) (hb0 : b < n) (h : W.cell? ⟨g, 0, none⟩ = some v0 ∧ W.cell? ⟨g, 1, none⟩ = some v1 ∧ W.cell? ⟨g, 2, none⟩ = some v2 ∧ W.cell? ⟨g, 3, none⟩ = some v3 ∧ W.there b 0 64 ∧ n ≤ W.heap.size ∧ Below w.heap.size w W) (hb : Below W.heap.size W W1) :
    W1.cell? ⟨g, 0, none⟩ = some v0 ∧ W1.cell? ⟨g, 1, none⟩ = some v1 ∧ W1.cell? ⟨g, 2, none⟩ = some v2 ∧ W1.cell? ⟨g, 3, none⟩ = some v3 ∧ W1.there b 0 64 ∧ n ≤ W1.heap.size ∧ Below w.heap.size w W1 := by
  obtain ⟨h0, h1, h2, h3, h4, h5, h6⟩ := h
  have hz := hb.size
  exact ⟨by rw [hb.cell (p := ⟨g, 0, none⟩) (by show g < _; omega)]; exact h0, by rw [hb.cell (p := ⟨g, 1, none⟩) (by show g < _; omega)]; exact h1, by rw [hb.cell (p := ⟨g, 2, none⟩) (by show g < _; omega)]; exact h2, by rw [hb.cell (p := ⟨g, 3, none⟩) (by show g < _; omega)]; exact h3, there_below h4 (by omega) hb, by omega, below_ext h6 hb⟩
theorem S_store {w W : World} {n g b : Nat} {v0 v1 v2 v3 : Value} (vs : List Value) (hne : g ≠ b) (hB : w.heap.size ≤ b) (h : W.cell? ⟨g, 0, none⟩ = some v0 ∧ W.cell? ⟨g, 1, none⟩ = some v1 ∧ W.cell? ⟨g, 2, none⟩ = some v2 ∧ W.cell? ⟨g, 3, none⟩ = some v3 ∧ W.there b 0 64 ∧ n ≤ W.heap.size ∧ Below w.heap.size w W) :
    (W.setCells b 0 vs).cell? ⟨g, 0, none⟩ = some v0 ∧ (W.setCells b 0 vs).cell? ⟨g, 1, none⟩ = some v1 ∧ (W.setCells b 0 vs).cell? ⟨g, 2, none⟩ = some v2 ∧ (W.setCells b 0 vs).cell? ⟨g, 3, none⟩ = some v3 ∧ (W.setCells b 0 vs).there b 0 64 ∧ n ≤ (W.setCells b 0 vs).heap.size ∧ Below w.heap.size w (W.setCells b 0 vs) := by
  obtain ⟨h0, h1, h2, h3, h4, h5, h6⟩ := h
  have out : ∀ o, (W.setCells b 0 vs).cell? ⟨g, o, none⟩ = W.cell? ⟨g, o, none⟩ := fun o => World.cell?_setCells_out b vs 0 W ⟨g, o, none⟩ (fun hb _ => absurd hb hne)
  exact ⟨by rw [out]; exact h0, by rw [out]; exact h1, by rw [out]; exact h2, by rw [out]; exact h3, World.there_setCells h4 b 0 vs, by rw [size_setCells]; exact h5, below_setCells hB vs 0 W h6⟩
theorem ret_range {fn : Func} {p u : Tmp} (h : fn.results = #[.cell p 50, .tmp u]) (tmps : Array Value) (w : World) {g : Nat} {xs : List Int} (hl : xs.length = 64) (hk : w.rangeAt g 0 (nums .u8 xs)) (hp : tmps.getD p undef = .pointer (some ⟨g, 0, none⟩)) {v : Value} (hv : tmps.getD u undef = v) :
    (results fn tmps).run Try.prog w = .ok (.tuple #[blk xs, v]) w := by
  subst hv
  have hp' : tmps[p]?.getD undef = .pointer (some ⟨g, 0, none⟩) := by simpa using hp
  have hr := run_loadVar_mid (P := Try.prog) w g 0 50 (nums .u8 xs) _ hk under_blk rfl (by rw [info_blk, nums_length, hl])
  simp [results, h, hp', asAddr, hr, blk]
set_option maxRecDepth 100000 in
set_option maxHeartbeats 1000000 in
theorem Put_note (s a c m : Nat) (hs : s < 18446744073709551616) (ha : a < 18446744073709551616) (hm : m < 4294967296) (h1 : 1 ≤ s) (h2 : s ≤ 4611686018427387904) (h3 : a ≤ 4611686018427387904) (h4 : 1 ≤ c) (h5 : c ≤ 32) (w : World) :
    Calls Try.prog 77 #[.agg #[.int .u64 (s : Int), .int .u64 (a : Int), .int .i64 (c : Int), .int .u32 (m : Int)]] w fun e w' => e = .returned (.tuple #[blk (sealed s (nbody a c m)), .int .i64 0]) ∧ Below w.heap.size w w' := by
  have HB := Lib.hid (Below.refl w.heap.size w)
  obtain ⟨X, hX⟩ : ∃ X, X = sealed s (nbody a c m) := ⟨_, rfl⟩
  obtain ⟨D, hD⟩ : ∃ D, D = nbody a c m := ⟨_, rfl⟩
  have hXl : X.length = 64 := by rw [hX]; exact sealed_length (by rw [nbody_length]; decide)
  have PM : Hid (∀ w : World, Calls Try.prog 79 #[.agg #[.int .u64 (s : Int), .int .u64 (a : Int), .int .i64 (c : Int), .int .u32 (m : Int)]] w fun e w' => e = .returned (.bool true) ∧ Below w.heap.size w w') := Lib.hid fun w => by
    have h := May_any s a c m hs ha (by omega) hm w
    rwa [show mayN s a c = true by simp [mayN]; omega] at h
  have PB : Hid (∀ w : World, Calls Try.prog 131 #[.agg #[.int .u64 (s : Int), .int .u64 (a : Int), .int .i64 (c : Int), .int .u32 (m : Int)]] w fun e w' => (∃ A k, e = .returned (.slice A 14 k) ∧ ReadsInt w' .u8 A 14 D) ∧ Below w.heap.size w w') := Lib.hid fun w => by
    refine (body_any s a c m hs ha h5 hm w).mono ?_
    rintro e w' ⟨⟨A, k, rfl, h⟩, hb⟩
    have h9 := h.reads
    rw [nbody_length, ← hD] at h9
    exact ⟨⟨A, k, rfl, h9⟩, hb⟩
  have PP : Hid (∀ (A : Option Addr) (k : Nat) (w : World), ReadsInt w .u8 A 14 D → Calls Try.prog 56 #[.int .u64 (s : Int), .slice A 14 k] w fun e w' => e = .returned (.tuple #[.agg (nums .u8 X).toArray, .int .i64 0]) ∧ Below w.heap.size w w') := Lib.hid fun A k w hr => by
    have h := Put_seal s hs A k D (by rw [hD]; exact nbody_wf a c m) w (by rw [hD, nbody_length, ← hD]; exact hr)
    rw [hD, seals_ok (by omega) (by rw [nbody_length]; decide), ← hX, nbody_length] at h
    exact h
  have HXl := Lib.hid hXl
  have qu := under_blk
  have qi : (Try.prog.info? 50).map (·.size) = some (nums .u8 X).length := by rw [info_blk, nums_length, hXl]
  have ql : (nums .u8 X).length = 64 := by rw [nums_length, hXl]
  have q1 : ∀ v ∈ nums .u8 X, v.oneCell' = true := fun v hv => by
    simp only [nums, List.mem_map] at hv
    obtain ⟨x, _, rfl⟩ := hv
    rfl
  rw [← hX]
  clear hX hD h3 h4 h5 h2 h1 hXl
  go_enter Try.func77, Try.ntmps77
  go_wp2_with (first
    | (refine rowBox rfl 89 (.tmp 0) rfl rfl ?_; intro w1 hk hb hz1; have K := Lib.hid hk; replace HB := Lib.hid (below_ext HB.out hb); clear hk hb)
    | (refine blkAlloc rfl rfl ?_; intro w2 hk hb hz2; have KB := Lib.hid hk; replace K := Lib.hid (K.out.below hb); replace HB := Lib.hid (below_ext HB.out hb); clear hk hb)
    | (refine rowLoad rfl 89 (.tmp 1) rfl K.out rfl Try.underlying89 rfl info_note ?_)
    | (go_at_call 79; refine (PM.out _).mono ?_; rintro e w3 ⟨rfl, hb⟩; replace KB := Lib.hid (KB.out.below hb); replace K := Lib.hid (K.out.below hb); replace HB := Lib.hid (below_ext HB.out hb); have hz3 := hb.size; clear hb))
  have c0 := K.out.cell (o := 0) rfl
  have c1 := K.out.cell (o := 1) rfl
  have c2 := K.out.cell (o := 2) rfl
  have c3 := K.out.cell (o := 3) rfl
  have th := blk_there KB.out
  have HZ := Lib.hid KB.out.lt
  have HG := Lib.hid K.out.lt
  have bd : Below w.heap.size w w3.drew := below_drewN HB.out 1
  have bn : w3.heap.size ≤ w3.drew.heap.size := Nat.le_refl _
  have HNE := Lib.hid (show w.heap.size ≠ w1.heap.size by omega)
  have HBB := Lib.hid (show w.heap.size ≤ w1.heap.size by omega)
  clear qu
  have qu := under_blk
  go_region_held3 (fun w' => w'.cell? ⟨w.heap.size, 0, none⟩ = some (.int .u64 (s : Int)) ∧ w'.cell? ⟨w.heap.size, 1, none⟩ = some (.int .u64 (a : Int)) ∧ w'.cell? ⟨w.heap.size, 2, none⟩ = some (.int .i64 (c : Int)) ∧ w'.cell? ⟨w.heap.size, 3, none⟩ = some (.int .u32 (m : Int)) ∧ w'.there w1.heap.size 0 64 ∧ w3.heap.size ≤ w'.heap.size ∧ Below w.heap.size w w')
    (first | exact S_store _ HNE.out HBB.out (by assumption) | exact S_step HG.out HZ.out (by assumption) hb5 | exact S_step HG.out HZ.out (by assumption) hb4 | go_keep_ranges | go_keep)
    (first
      | (go_at_call 131; refine (PB.out _).mono ?_; rintro e w4 ⟨⟨A4, k4, rfl, hr⟩, hb4⟩; have R4 := Lib.hid hr; clear hr)
      | (go_at_call 56; refine (PP.out _ _ _ R4.out).mono ?_; rintro e w5 ⟨rfl, hb5⟩))
  rename_i hH
  obtain ⟨_, _, _, _, _, _, hF⟩ := hH
  have t5 := there_below (there_below (W := w3.drew) ((World.there_drew _ _ _ _).2 th) HZ.out hb4) (Nat.lt_of_lt_of_le HZ.out hb4.size) hb5
  have R5 := Lib.hid (World.rangeAt_setCells_same w5 w1.heap.size 0 (nums .u8 X) (by rw [ql]; exact t5))
  have HF := Lib.hid hF
  clear hF t5 c0 c1 c2 c3 th bd bn qu qi ql q1 hb4 hb5
  generalize w5.setCells w1.heap.size 0 (nums .u8 X) = w6 at R5 HF ⊢
  go_wp2
  exact bodyPost_ret (v := .tuple #[blk X, .int .i64 0]) (ret_range rfl _ _ HXl.out R5.out rfl rfl) rfl ⟨rfl, HF.out⟩
end Go.Proofs.Ytdchcggllcgokaa.T

namespace Go.Proofs.Ytdchcggllcgokaa.T
open Go.RowKit Go.Proofs.Ytdchcggllcgokaa.L Go.Proofs.Ytdchcggllcgokaa.U Go.Proofs.Ytdchcggllcgokaa.R Go.Proofs.Ytdchcggllcgokaa.E Go.Proofs.YtdchcggllcgokaaW.PrintWords
set_option linter.unusedVariables false
set_option linter.unusedSimpArgs false

def notes (s a : Nat) (c : Int) (m : Nat) : List Int × Int := if mayN s a c = true then (sealed s (nbody a c.toNat m), 0) else (zeros, 2)
abbrev nagg (s a : Nat) (c : Int) (m : Nat) : Value := .agg #[.int .u64 (s : Int), .int .u64 (a : Int), .int .i64 c, .int .u32 (m : Int)]
theorem may_ok {s a : Nat} {c : Int} (h : mayN s a c = true) : 1 ≤ s ∧ s ≤ 4611686018427387904 ∧ a ≤ 4611686018427387904 ∧ 1 ≤ c ∧ c ≤ 32 := of_decide_eq_true h
set_option maxRecDepth 100000 in
set_option maxHeartbeats 1000000 in
theorem Put_bad (s a : Nat) (c : Int) (m : Nat) (hs : s < 18446744073709551616) (ha : a < 18446744073709551616) (hc : -9223372036854775808 ≤ c ∧ c ≤ 9223372036854775807) (hm : m < 4294967296) (h : mayN s a c = false) (w : World) :
    Calls Try.prog 77 #[nagg s a c m] w fun e w' => e = .returned (.tuple #[blk zeros, .int .i64 2]) ∧ Below w.heap.size w w' := by
  have HB := Lib.hid (Below.refl w.heap.size w)
  have PM : Hid (∀ w : World, Calls Try.prog 79 #[nagg s a c m] w fun e w' => e = .returned (.bool false) ∧ Below w.heap.size w w') := Lib.hid fun w => by
    have h2 := May_any s a c m hs ha hc hm w
    rwa [h] at h2
  clear h hc
  go_enter Try.func77, Try.ntmps77
  go_wp2_with (first
    | (go_skip)
    | (refine rowBox rfl 89 (.tmp 0) rfl rfl ?_; intro w1 hk hb hz1; have K := Lib.hid hk; replace HB := Lib.hid (below_ext HB.out hb); clear hk hb)
    | (refine blkAlloc rfl rfl ?_; intro w2 hk hb hz2; have KB := Lib.hid hk; replace K := Lib.hid (K.out.below hb); replace HB := Lib.hid (below_ext HB.out hb); clear hk hb)
    | (refine rowLoad rfl 89 (.tmp 1) rfl K.out rfl Try.underlying89 rfl info_note ?_)
    | (go_at_call 79; refine (PM.out _).mono ?_; rintro e w3 ⟨rfl, hb⟩; replace KB := Lib.hid (KB.out.below hb); replace K := Lib.hid (K.out.below hb); replace HB := Lib.hid (below_ext HB.out hb); have hz3 := hb.size; clear hb)
    | (refine blkBuild rfl rfl ?_)
    | (refine blkStore rfl (.tmp 2) (.tmp 7) rfl KB.out rfl rfl zeros_length ?_; intro w4 hk hg; replace HB := Lib.hid (below_at HB.out hg (by omega) KB.out.lt); replace KB := Lib.hid hk; clear hk hg))
  exact bodyPost_ret (v := .tuple #[blk zeros, .int .i64 2]) (ret_blk rfl _ _ KB.out rfl rfl) rfl ⟨rfl, HB.out⟩
set_option maxRecDepth 100000 in
set_option maxHeartbeats 1000000 in
theorem rPut_bad (s a : Nat) (c : Int) (m : Nat) (hs : s < 18446744073709551616) (ha : a < 18446744073709551616) (hc : -9223372036854775808 ≤ c ∧ c ≤ 9223372036854775807) (hm : m < 4294967296) (h : mayN s a c = false) (w : World) :
    Calls Try.prog 78 #[nagg s a c m] w fun e w' => e = .returned (.tuple #[blk zeros, .int .i64 2]) ∧ Below w.heap.size w w' := by
  have HB := Lib.hid (Below.refl w.heap.size w)
  have PM : Hid (∀ w : World, Calls Try.prog 80 #[nagg s a c m] w fun e w' => e = .returned (.bool false) ∧ Below w.heap.size w w') := Lib.hid fun w => by
    have h2 := rMay_any s a c m hs ha hc hm w
    rwa [h] at h2
  clear h hc
  go_enter Try.func78, Try.ntmps78
  go_wp2_with (first
    | (go_skip)
    | (refine rowBox rfl 89 (.tmp 0) rfl rfl ?_; intro w1 hk hb hz1; have K := Lib.hid hk; replace HB := Lib.hid (below_ext HB.out hb); clear hk hb)
    | (refine blkAlloc rfl rfl ?_; intro w2 hk hb hz2; have KB := Lib.hid hk; replace K := Lib.hid (K.out.below hb); replace HB := Lib.hid (below_ext HB.out hb); clear hk hb)
    | (refine rowLoad rfl 89 (.tmp 1) rfl K.out rfl Try.underlying89 rfl info_note ?_)
    | (go_at_call 80; refine (PM.out _).mono ?_; rintro e w3 ⟨rfl, hb⟩; replace KB := Lib.hid (KB.out.below hb); replace K := Lib.hid (K.out.below hb); replace HB := Lib.hid (below_ext HB.out hb); have hz3 := hb.size; clear hb)
    | (refine blkBuild rfl rfl ?_)
    | (refine blkStore rfl (.tmp 2) (.tmp 13) rfl KB.out rfl rfl zeros_length ?_; intro w4 hk hg; replace HB := Lib.hid (below_at HB.out hg (by omega) KB.out.lt); replace KB := Lib.hid hk; clear hk hg))
  exact bodyPost_ret (v := .tuple #[blk zeros, .int .i64 2]) (ret_blk rfl _ _ KB.out rfl rfl) rfl ⟨rfl, HB.out⟩
theorem agg_u64 (w : World) : (isAgg 33).run Try.prog w = .ok false w := by kernel_rfl
theorem agg_int (w : World) : (isAgg 3).run Try.prog w = .ok false w := by kernel_rfl
theorem agg_u32 (w : World) : (isAgg 83).run Try.prog w = .ok false w := by kernel_rfl
/-- over an append to a row of one's own, whole blocks and rows of others -/
theorem row_apart {T : TypeId} {W W1 : World} {g base n size : Nat} {e : TypeId} {v : Value} {xs : List Value} {cs : Array Value} (h : Row T W g cs) (hg : W.grownBy W1 v.ownBlock) (ho : W.ownsRow base e size v n xs) (hne : e ≠ T) : Row T W1 g cs :=
  blk_grown h hg (own_ne ho h hne)
theorem blk_away {W W1 : World} {g base n size : Nat} {e : TypeId} {v : Value} {xs : List Value} {ys : List Int} (h : Blk W g ys) (hg : W.grownBy W1 v.ownBlock) (ho : W.ownsRow base e size v n xs) (hne : e ≠ 50) : Blk W1 g ys := ⟨h.1, row_apart h.2 hg ho hne⟩
set_option maxRecDepth 100000 in
set_option maxHeartbeats 1000000 in
theorem rPut_note (s a c m : Nat) (hs : s < 18446744073709551616) (ha : a < 18446744073709551616) (hm : m < 4294967296) (h1 : 1 ≤ s) (h2 : s ≤ 4611686018427387904) (h3 : a ≤ 4611686018427387904) (h4 : 1 ≤ c) (h5 : c ≤ 32) (w : World) :
    Calls Try.prog 78 #[nagg s a c m] w fun e w' => e = .returned (.tuple #[blk (sealed s (nbody a c m)), .int .i64 0]) ∧ Below w.heap.size w w' := by
  have HB := Lib.hid (Below.refl w.heap.size w)
  obtain ⟨G, hG⟩ : ∃ G, G = sealed s (nbody a c m) := ⟨_, rfl⟩
  obtain ⟨X, hX⟩ : ∃ X, X = putb a 8 := ⟨_, rfl⟩
  obtain ⟨Y, hY⟩ : ∃ Y, Y = putb c 2 := ⟨_, rfl⟩
  obtain ⟨V, hV⟩ : ∃ V, V = putb m 4 := ⟨_, rfl⟩
  obtain ⟨D, hD⟩ : ∃ D, D = nbody a c m := ⟨_, rfl⟩
  have hXl : X.length = 8 := by rw [hX, putb_length]
  have hYl : Y.length = 2 := by rw [hY, putb_length]
  have hVl : V.length = 4 := by rw [hV, putb_length]
  have HX := Lib.hid (show G.length = 64 by rw [hG]; exact sealed_length (by rw [nbody_length]; decide))
  have PM : Hid (∀ w : World, Calls Try.prog 80 #[nagg s a c m] w fun e w' => e = .returned (.bool true) ∧ Below w.heap.size w w') := Lib.hid fun w => by
    have h := rMay_any s a c m hs ha (by omega) hm w
    rwa [show mayN s a c = true by simp [mayN]; omega] at h
  have P1 := Lib.hid (rput_n (s := 8) ha (by decide) (by rw [puts_ok (by decide) (by decide) (by omega), hX]) : rPutN 8 a X 0)
  have P2 := Lib.hid (rput_n (s := 2) (n := c) (by omega) (by decide) (by rw [puts_ok (by decide) (by decide) (by omega), hY]) : rPutN 2 c Y 0)
  have P3 := Lib.hid (rput_n (s := 4) (n := m) (by omega) (by decide) (by rw [puts_ok (by decide) (by decide) (by omega), hV]) : rPutN 4 m V 0)
  have HB0 := Lib.hid (show X ++ Y ++ V = D by rw [hD, nbody, hX, hY, hV])
  have HL1 := Lib.hid (show (X.length + Y.length) * 1 ≤ 140737488355328 by omega)
  have HL2 := Lib.hid (show ((X ++ Y).length + V.length) * 1 ≤ 140737488355328 by rw [List.length_append]; omega)
  have PP : Hid (∀ (A : Option Addr) (k : Nat) (w : World), ReadsInt w .u8 A D.length D → Calls Try.prog 57 #[.int .u64 (s : Int), .slice A D.length k] w fun e w' => e = .returned (.tuple #[blk G, .int .i64 0]) ∧ Below w.heap.size w w') := Lib.hid fun A k w hr => by
    have h := rPut_seal s hs A k D (by rw [hD]; exact nbody_wf a c m) w hr
    rw [show seals s D = (G, 0) by rw [hD, seals_ok (by omega) (by rw [nbody_length]; decide), hG]] at h
    exact h
  rw [← hG]
  clear hG hX hY hV hD hXl hYl hVl h1 h2 h3 h4
  go_enter Try.func78, Try.ntmps78
  go_wp2_with (first
    | (go_skip)
    | (refine rowBox rfl 89 (.tmp 0) rfl rfl ?_; intro w1 hk hb hz1; have K := Lib.hid hk; replace HB := Lib.hid (below_ext HB.out hb); clear hk hb)
    | (refine blkAlloc rfl rfl ?_; intro w2 hk hb hz2; have KB := Lib.hid hk; replace K := Lib.hid (K.out.below hb); replace HB := Lib.hid (below_ext HB.out hb); clear hk hb)
    | (refine rowLoad rfl 89 (.tmp 1) rfl K.out rfl Try.underlying89 rfl info_note ?_)
    | (go_at_call 80; refine (PM.out _).mono ?_; rintro e w3 ⟨rfl, hb⟩; replace KB := Lib.hid (KB.out.below hb); replace K := Lib.hid (K.out.below hb); replace HB := Lib.hid (below_ext HB.out hb); have hz3 := hb.size; clear hb)
    | (refine rowCell rfl _ (.tmp 15) rfl (K.out.cell (o := 1) rfl) rfl agg_u64 ?_)
    | (refine rowCell rfl _ (.tmp 21) rfl (K.out.cell (o := 2) rfl) rfl agg_int ?_)
    | (refine rowCell rfl _ (.tmp 28) rfl (K.out.cell (o := 3) rfl) rfl agg_u32 ?_)
    | (refine rowCell rfl _ (.tmp 40) rfl (K.out.cell (o := 0) rfl) rfl agg_u64 ?_)
    | (go_at_call_of 43 (Value.int .i64 8); refine (P1.out _).mono ?_; rintro e w4 ⟨⟨A1, c1, rfl, o1⟩, hb⟩; have O1 := Lib.hid (own_lower o1 HB.out.size); replace KB := Lib.hid (KB.out.below hb); replace K := Lib.hid (K.out.below hb); replace HB := Lib.hid (below_ext HB.out hb); clear hb)
    | (go_at_call_of 43 (Value.int .i64 2); refine (P2.out _).mono ?_; rintro e w5 ⟨⟨A2, c2, rfl, o2⟩, hb⟩; have O2 := Lib.hid o2; have O1p := Lib.hid O1.out; replace O1 := Lib.hid (pw_own_below O1.out hb); replace KB := Lib.hid (KB.out.below hb); replace K := Lib.hid (K.out.below hb); replace HB := Lib.hid (below_ext HB.out hb); clear hb)
    | (go_at_call 43; refine (P3.out _).mono ?_; rintro e w6 ⟨⟨A3, c3, rfl, o3⟩, hb⟩; have N13 := Lib.hid (ne_symm (ne_below (v1 := .slice A3 V.length c3) o3 O1.out)); have O3 := Lib.hid o3; replace O2 := Lib.hid (O2.out.below hb); replace O1 := Lib.hid (pw_own_below O1.out hb); have tokA : True := trivial; clear o3; replace KB := Lib.hid (KB.out.below hb); replace K := Lib.hid (K.out.below hb); replace HB := Lib.hid (below_ext HB.out hb); clear hb)
    | (at_builtin; have _t := tokA; refine print_append_row (w0 := w) w.heap.size rfl (.tmp 34) (.tmp 35) 22 5 .u8 1 rfl Try.underlying22 info_u8 (by decide) _ X Y A2 Y.length c2 rfl rfl O1.out O2.out.reads HB.out HB.out.size HL1.out ?_; intro v7 w7 ho hb hg hat; replace K := Lib.hid (row_apart K.out hg O1.out (by decide)); replace KB := Lib.hid (blk_away KB.out hg O1.out (by decide)); replace O3 := Lib.hid (own_other O3.out hg (ne_other N13.out)); replace HB := Lib.hid hb; have O7 := Lib.hid ho; have tokB : True := trivial; clear ho hb hg hat _t tokA)
    | (at_builtin; have _t := tokB; refine print_append_row (w0 := w) w.heap.size rfl (.tmp 37) (.tmp 38) 22 5 .u8 1 rfl Try.underlying22 info_u8 (by decide) _ (X ++ Y) V A3 V.length c3 rfl rfl O7.out (own_reads' O3.out) HB.out HB.out.size HL2.out ?_; intro v8 w8 ho hb hg hat; rw [HB0.out] at ho; replace K := Lib.hid (row_apart K.out hg O7.out (by decide)); replace KB := Lib.hid (blk_away KB.out hg O7.out (by decide)); replace HB := Lib.hid hb; obtain ⟨A8, c8, he8, hr8⟩ := own_reads ho; have R8 := Lib.hid hr8; subst he8; clear hr8; clear ho hb hg hat _t tokB)
    | (go_at_call 57; refine (PP.out _ _ _ R8.out).mono ?_; rintro e w9 ⟨rfl, hb⟩; replace KB := Lib.hid (KB.out.below hb); replace K := Lib.hid (K.out.below hb); replace HB := Lib.hid (below_ext HB.out hb); clear hb)
    | (refine blkStore rfl (.tmp 2) (.tmp 44) rfl KB.out rfl rfl HX.out ?_; intro w10 hk hg; replace HB := Lib.hid (below_at HB.out hg (by omega) KB.out.lt); replace KB := Lib.hid hk; clear hk hg))
  exact bodyPost_ret (v := .tuple #[blk G, .int .i64 0]) (ret_blk rfl _ _ KB.out rfl rfl) rfl ⟨rfl, HB.out⟩
theorem Put_any (s a : Nat) (c : Int) (m : Nat) (hs : s < 18446744073709551616) (ha : a < 18446744073709551616) (hc : -9223372036854775808 ≤ c ∧ c ≤ 9223372036854775807) (hm : m < 4294967296) (w : World) :
    Calls Try.prog 77 #[nagg s a c m] w fun e w' => e = .returned (.tuple #[blk (notes s a c m).1, .int .i64 (notes s a c m).2]) ∧ Below w.heap.size w w' := by
  cases h : mayN s a c with
  | false =>
    rw [notes, if_neg (by rw [h]; decide)]
    exact Put_bad s a c m hs ha hc hm h w
  | true =>
    rw [notes, if_pos h]
    obtain ⟨h1, h2, h3, h4, h5⟩ := may_ok h
    obtain ⟨k, rfl⟩ : ∃ k : Nat, c = k := ⟨c.toNat, by omega⟩
    rw [Int.toNat_natCast]
    exact Put_note s a k m hs ha hm h1 h2 h3 (by omega) (by omega) w
theorem rPut_any (s a : Nat) (c : Int) (m : Nat) (hs : s < 18446744073709551616) (ha : a < 18446744073709551616) (hc : -9223372036854775808 ≤ c ∧ c ≤ 9223372036854775807) (hm : m < 4294967296) (w : World) :
    Calls Try.prog 78 #[nagg s a c m] w fun e w' => e = .returned (.tuple #[blk (notes s a c m).1, .int .i64 (notes s a c m).2]) ∧ Below w.heap.size w w' := by
  cases h : mayN s a c with
  | false =>
    rw [notes, if_neg (by rw [h]; decide)]
    exact rPut_bad s a c m hs ha hc hm h w
  | true =>
    rw [notes, if_pos h]
    obtain ⟨h1, h2, h3, h4, h5⟩ := may_ok h
    obtain ⟨k, rfl⟩ : ∃ k : Nat, c = k := ⟨c.toNat, by omega⟩
    rw [Int.toNat_natCast]
    exact rPut_note s a k m hs ha hm h1 h2 h3 (by omega) (by omega) w
end Go.Proofs.Ytdchcggllcgokaa.T

namespace Go.Proofs.Ytdchcggllcgokaa.T
open Go.RowKit Go.Proofs.Ytdchcggllcgokaa.L Go.Proofs.Ytdchcggllcgokaa.U Go.Proofs.Ytdchcggllcgokaa.R Go.Proofs.Ytdchcggllcgokaa.E Go.Proofs.YtdchcggllcgokaaW.PrintWords
set_option linter.unusedVariables false
set_option linter.unusedSimpArgs false

theorem byt_lt (n i : Nat) : byt n i < 256 := Nat.mod_lt _ (by decide)
theorem byt_vle {f : Nat → Nat} (hf : ∀ i, f i < 256) {s i : Nat} (h : i < s) : byt (vle f s) i = f i :=
  vle_inj (fun i => byt_lt _ i) hf s (by rw [vle_byt, Nat.mod_eq_of_lt (vle_lt f hf s)]) i h
/-- bytes that are got are put again -/
theorem put_get {xs : List Int} (hw : Wf8 xs) {a s : Nat} (h : a + s ≤ xs.length) : putb (vle (bat xs a) s) s = (xs.drop a).take s := by
  apply List.ext_getElem
  · rw [putb_length, List.length_take, List.length_drop]; omega
  · intro i h1 h2
    rw [putb_length] at h1
    simp only [putb, List.getElem_map, List.getElem_range, List.getElem_take, List.getElem_drop]
    rw [byt_vle (bat_lt hw a) h1, bat]
    have h3 := rd_byte hw (a + i)
    have h4 : rd xs ((a + i : Nat) : Int) = xs[a + i] := by rw [rd, Int.toNat_natCast, List.getD_eq_getElem?_getD, List.getElem?_eq_getElem (by omega), Option.getD_some]
    rw [← h4]; omega
/-- what is got sealed is the sealed sector of what it tells -/
theorem reseal {xs D : List Int} {n : Nat} (hl : xs.length = 64) (hw : Wf8 xs) (h : gots xs = (n, D, 0)) : n ≠ 0 ∧ D = inner xs ∧ sealed n D = xs := by
  unfold gots at h
  split at h
  · exact absurd (congrArg (fun z => z.2.2) h) (by simp)
  · rename_i h1
    split at h
    · exact absurd (congrArg (fun z => z.2.2) h) (by simp)
    · rename_i h2
      have e1 : first xs = n := congrArg (fun z => z.1) h
      have e2 : inner xs = D := congrArg (fun z => z.2.1) h
      have h3 : first xs = last xs := by
        by_cases h4 : first xs = last xs
        · exact h4
        · exact absurd (.inr h4) h1
      have h5 : crcs (xs.take 52) = told xs := by
        by_cases h6 : crcs (xs.take 52) = told xs
        · exact h6
        · exact absurd h6 h2
      have hD : D.length = 44 := by rw [← e2]; exact inner_length hl
      have p1 : putb n 8 = xs.take 8 := by
        have h7 := put_get hw (a := 0) (s := 8) (by omega)
        rw [← e1, first, h7, List.drop_zero]
      have p2 : putb n 8 = xs.drop 56 := by
        have h7 := put_get hw (a := 56) (s := 8) (by omega)
        rw [← e1, h3, last, h7, List.take_of_length_le (by rw [List.length_drop]; omega)]
      have p3 : putb (told xs) 4 = (xs.drop 52).take 4 := put_get hw (a := 52) (s := 4) (by omega)
      have t52 : xs.take 52 = xs.take 8 ++ (xs.drop 8).take 44 := (List.take_add (i := 8) (j := 44) (l := xs)).symm ▸ rfl
      have f1 : front n D = xs.take 52 := by
        rw [front, hD, p1, t52, ← e2, inner]; simp
      refine ⟨fun h0 => h1 (.inl (by rw [e1, h0])), e2.symm, ?_⟩
      rw [sealed, f1, h5, p3, p2]
      have d56 : xs.drop 56 = (xs.drop 52).drop 4 := by rw [List.drop_drop]
      rw [d56, List.take_append_drop, List.take_append_drop]
def fA (D : List Int) : Nat := vle (bat D 0) 8
def fC (D : List Int) : Nat := vle (bat D 8) 2
def fM (D : List Int) : Nat := vle (bat D 10) 4
theorem fA_lt {D : List Int} (hw : Wf8 D) : fA D < 18446744073709551616 := vle_lt _ (bat_lt hw 0) 8
theorem fC_lt {D : List Int} (hw : Wf8 D) : fC D < 65536 := vle_lt _ (bat_lt hw 8) 2
theorem fM_lt {D : List Int} (hw : Wf8 D) : fM D < 4294967296 := vle_lt _ (bat_lt hw 10) 4
theorem nbody_take {D : List Int} (hw : Wf8 D) (hl : D.length = 44) : nbody (fA D) (fC D) (fM D) = D.take 14 := by
  rw [nbody, fA, fC, fM, put_get hw (by omega), put_get hw (by omega), put_get hw (by omega), List.drop_zero]
  have h1 : D.take 10 = D.take 8 ++ (D.drop 8).take 2 := (List.take_add (i := 8) (j := 2) (l := D)).symm ▸ rfl
  have h2 : D.take 14 = D.take 10 ++ (D.drop 10).take 4 := (List.take_add (i := 10) (j := 4) (l := D)).symm ▸ rfl
  rw [h2, h1]
theorem same_note {xs D : List Int} {n : Nat} (hl : xs.length = 64) (hw : Wf8 xs) (h : gots xs = (n, D, 0)) : sealed n (nbody (fA D) (fC D) (fM D)) = xs ↔ D.drop 14 = Z 30 := by
  obtain ⟨h0, hD, hs⟩ := reseal hl hw h
  have hDl : D.length = 44 := by rw [hD]; exact inner_length hl
  have hDw : Wf8 D := by rw [hD]; exact inner_wf hw
  rw [nbody_take hDw hDl]
  have ht : (D.take 14).length = 14 := by rw [List.length_take]; omega
  constructor
  · intro he
    have h1 : inner (sealed n (D.take 14)) = D.take 14 ++ Z (44 - (D.take 14).length) := inner_sealed (by rw [ht]; decide)
    rw [he, ← hD, ht] at h1
    have h2 : D.drop 14 = (D.take 14 ++ Z 30).drop 14 := by rw [← h1]
    rw [h2, List.drop_left' ht]
  · intro he
    have h1 : D = D.take 14 ++ Z 30 := by rw [← he, List.take_append_drop]
    have h2 : front n (D.take 14) = front n D := by
      rw [front, front, ht, hDl]
      conv => rhs; rw [h1]
      simp [Z]
    rw [← hs, sealed, sealed, h2]
def gotN (xs : List Int) : (Nat × Nat × Nat × Nat) × Int :=
  if (gots xs).2.2 ≠ 0 then ((0, 0, 0, 0), (gots xs).2.2)
  else if mayN (gots xs).1 (fA (gots xs).2.1) (fC (gots xs).2.1) = true ∧ (gots xs).2.1.drop 14 = Z 30 then (((gots xs).1, fA (gots xs).2.1, fC (gots xs).2.1, fM (gots xs).2.1), 0)
  else ((0, 0, 0, 0), 5)
end Go.Proofs.Ytdchcggllcgokaa.T

namespace Go.Proofs.Ytdchcggllcgokaa.T
open Go.RowKit Go.Proofs.Ytdchcggllcgokaa.L Go.Proofs.Ytdchcggllcgokaa.U Go.Proofs.Ytdchcggllcgokaa.R Go.Proofs.Ytdchcggllcgokaa.E Go.Proofs.YtdchcggllcgokaaW.PrintWords
set_option linter.unusedVariables false
set_option linter.unusedSimpArgs false

theorem zero_note (w : World) : (zeroValue 89).run Try.prog w = .ok (.agg #[.int .u64 0, .int .u64 0, .int .i64 0, .int .u32 0]) w := by kernel_rfl
theorem ones_note (s a c m : Int) : (#[Value.int .u64 s, .int .u64 a, .int .i64 c, .int .u32 m] : Array Value).all (·.oneCell') = true := by
  rw [Array.all_eq_true_iff_forall_mem]
  intro v hv
  simp at hv
  rcases hv with rfl | rfl | rfl | rfl <;> rfl
theorem info_u64 : (Try.prog.info? 33).map (·.size) = some 1 := by kernel_rfl
theorem info_int : (Try.prog.info? 3).map (·.size) = some 1 := by kernel_rfl
theorem info_u32 : (Try.prog.info? 83).map (·.size) = some 1 := by kernel_rfl
theorem getD {D : List Int} (hw : Wf8 D) (hl : D.length = 44) (a s : Nat) (h1 : 1 ≤ s) (h2 : s ≤ 8) (h3 : a + s ≤ 44) (v : Nat) (hv : v = vle (bat D a) s) (A : Option Addr) (c : Nat) (hc : 44 ≤ c) (hc2 : c ≤ 9223372036854775807) (w : World) (hr : ReadsInt w .u8 A 44 D) :
    Calls Try.prog 44 #[.slice A 44 c, .int .i64 (a : Int), .int .i64 (s : Int)] w fun e w' => e = .returned (.tuple #[.int .u64 (v : Int), .int .i64 0]) ∧ Below w.heap.size w w' := by
  have h := Get_b A c D hw a s (by omega) (by omega) (by omega) hc2 w (by rw [hl]; exact hr)
  rw [gets_ok h1 h2 (by omega), hl, ← hv] at h
  exact h
theorem rgetD {D : List Int} (hw : Wf8 D) (hl : D.length = 44) (a s : Nat) (h1 : 1 ≤ s) (h2 : s ≤ 8) (h3 : a + s ≤ 44) (v : Nat) (hv : v = vle (bat D a) s) (A : Option Addr) (c : Nat) (hc : 44 ≤ c) (hc2 : c ≤ 9223372036854775807) (w : World) (hr : ReadsInt w .u8 A 44 D) :
    Calls Try.prog 45 #[.slice A 44 c, .int .i64 (a : Int), .int .i64 (s : Int)] w fun e w' => e = .returned (.tuple #[.int .u64 (v : Int), .int .i64 0]) ∧ Below w.heap.size w w' := by
  have h := rGet_b A c D hw a s (by omega) (by omega) (by omega) hc2 w (by rw [hl]; exact hr)
  rw [gets_ok h1 h2 (by omega), hl, ← hv] at h
  exact h
theorem Byts.apart {T : TypeId} {b g : Nat} {W W1 : World} {A : Option Addr} {c : Nat} {ys : List Int} {cs : Array Value} (h : Byts b W A c ys) (hk : Row T W g cs) (hg : W.grownBy W1 (some g)) (hne : 5 ≠ T) : Byts b W1 A c ys :=
  own_other h hg (.inr (Ne.symm (own_ne h hk hne)))
theorem ret_row {fn : Func} {p u : Tmp} (h : fn.results = #[.cell p 89, .tmp u]) (tmps : Array Value) (w : World) {g : Nat} {cs : Array Value} (hs : cs.size = 4) (hk : Row 89 w g cs) (hp : tmps.getD p undef = .pointer (some ⟨g, 0, none⟩)) {v : Value} (hv : tmps.getD u undef = v) :
    (results fn tmps).run Try.prog w = .ok (.tuple #[.agg cs, v]) w := by
  subst hv
  exact results_ct h tmps w g _ _ (0, 0) _ hp hk Try.underlying89 rfl (by rw [info_note, hs])
set_option maxRecDepth 100000 in
set_option maxHeartbeats 1000000 in
theorem Get_1 (xs : List Int) (HX : Hid (xs.length = 64)) (n : Nat) (k : Int) (hk : (k != 0) = true) (PG : Hid (GetN xs n k)) (w : World) :
    Calls Try.prog 86 #[blk xs] w fun e w' => e = .returned (.tuple #[nagg 0 0 0 0, .int .i64 k]) ∧ Below w.heap.size w w' := by
  have HB := Lib.hid (Below.refl w.heap.size w)
  have tok0 : True := trivial
  go_enter Try.func86, Try.ntmps86
  go_wp2_with (first
    | (go_skip)
    | (refine blkBox rfl (.tmp 0) rfl rfl HX.out ?_; intro w1 hk hb1 hz1; replace HB := Lib.hid (below_ext HB.out hb1); have KX := Lib.hid hk; clear hk hb1)
    | (have _t := tok0; refine R.rowAlloc rfl 89 rfl _ zero_note ?_; intro w2 hk hb2 hz2; replace KX := Lib.hid (KX.out.below hb2); replace HB := Lib.hid (below_ext HB.out hb2); have KR := Lib.hid hk; have tok1 : True := trivial; clear hk hb2 _t tok0)
    | (refine blkLoad rfl (.tmp 1) rfl KX.out rfl ?_)
    | (go_at_call 59; refine (PG.out _).mono ?_; rintro e w3 ⟨⟨A1, c1, l1, rfl⟩, hb3⟩; replace KX := Lib.hid (KX.out.below hb3); replace KR := Lib.hid (KR.out.below hb3); replace HB := Lib.hid (below_ext HB.out hb3); have hz3 := hb3.size; clear hb3)
    | (refine R.rowStore rfl 89 (.tmp 2) (.tmp 22) rfl KR.out rfl rfl info_note rfl (ones_note _ _ _ _) ?_; intro w4 hk hg; replace HB := Lib.hid (below_at HB.out hg (by omega) KR.out.lt); replace KX := Lib.hid (KX.out.grown hg (by omega)); replace KR := Lib.hid hk; have hz4 := hg.size; clear hk hg))
  exact bodyPost_ret (v := .tuple #[.agg #[.int .u64 0, .int .u64 0, .int .i64 0, .int .u32 0], .int .i64 k]) (ret_row rfl _ _ rfl KR.out rfl rfl) rfl ⟨rfl, HB.out⟩
set_option maxRecDepth 100000 in
set_option maxHeartbeats 1000000 in
theorem Get_2 (xs : List Int) (HX : Hid (xs.length = 64)) (D : List Int) (HD : Hid (D.length = 44)) (n a c m : Nat) (nl : n < 18446744073709551616) (al : a < 18446744073709551616) (cl : c < 65536) (ml : m < 4294967296)
    (PG : Hid (∀ w : World, Calls Try.prog 59 #[blk xs] w fun e w' => (∃ A k, e = .returned (.tuple #[.int .u64 (n : Int), .slice A 44 k, .int .i64 0]) ∧ Byts w.heap.size w' A k D) ∧ Below w.heap.size w w'))
    (P1 : Hid (∀ (A : Option Addr) (k : Nat), 44 ≤ k → k ≤ 9223372036854775807 → ∀ w : World, ReadsInt w .u8 A 44 D → Calls Try.prog 44 #[.slice A 44 k, .int .i64 0, .int .i64 8] w fun e w' => e = .returned (.tuple #[.int .u64 (a : Int), .int .i64 0]) ∧ Below w.heap.size w w'))
    (P2 : Hid (∀ (A : Option Addr) (k : Nat), 44 ≤ k → k ≤ 9223372036854775807 → ∀ w : World, ReadsInt w .u8 A 44 D → Calls Try.prog 44 #[.slice A 44 k, .int .i64 8, .int .i64 2] w fun e w' => e = .returned (.tuple #[.int .u64 (c : Int), .int .i64 0]) ∧ Below w.heap.size w w'))
    (P3 : Hid (∀ (A : Option Addr) (k : Nat), 44 ≤ k → k ≤ 9223372036854775807 → ∀ w : World, ReadsInt w .u8 A 44 D → Calls Try.prog 44 #[.slice A 44 k, .int .i64 10, .int .i64 4] w fun e w' => e = .returned (.tuple #[.int .u64 (m : Int), .int .i64 0]) ∧ Below w.heap.size w w'))
    (PP : Hid (∀ w : World, Calls Try.prog 77 #[nagg n a c m] w fun e w' => e = .returned (.tuple #[blk zeros, .int .i64 2]) ∧ Below w.heap.size w w')) (HY : Hid (zeros.length = 64)) (w : World) :
    Calls Try.prog 86 #[blk xs] w fun e w' => e = .returned (.tuple #[nagg 0 0 0 0, .int .i64 5]) ∧ Below w.heap.size w w' := by
  have HB := Lib.hid (Below.refl w.heap.size w)
  have tok0 : True := trivial
  go_enter Try.func86, Try.ntmps86
  go_wp2_with (first
    | (go_skip)
    | (refine blkBox rfl (.tmp 0) rfl rfl HX.out ?_; intro w1 hk hb1 hz1; replace HB := Lib.hid (below_ext HB.out hb1); have KX := Lib.hid hk; clear hk hb1)
    | (have _t := tok0; refine R.rowAlloc rfl 89 rfl _ zero_note ?_; intro w2 hk hb2 hz2; replace KX := Lib.hid (KX.out.below hb2); replace HB := Lib.hid (below_ext HB.out hb2); have KR := Lib.hid hk; have tok1 : True := trivial; clear hk hb2 _t tok0)
    | (refine blkLoad rfl (.tmp 1) rfl KX.out rfl ?_)
    | (go_at_call 59; refine (PG.out _).mono ?_; rintro e w3 ⟨⟨A1, c1, rfl, o1⟩, hb3⟩; have O1 := Lib.hid o1; have c44 : 44 ≤ c1 := (by have h := o1.le; rw [HD.out] at h; exact h); have cm := o1.cap; replace KX := Lib.hid (KX.out.below hb3); replace KR := Lib.hid (KR.out.below hb3); replace HB := Lib.hid (below_ext HB.out hb3); have hz3 := hb3.size; clear hb3)
    | (have _t := tok1; refine R.rowAlloc rfl 89 rfl _ zero_note ?_; intro w4 hk hb4 hz4; replace KX := Lib.hid (KX.out.below hb4); replace KR := Lib.hid (KR.out.below hb4); replace O1 := Lib.hid (O1.out.below hb4); replace HB := Lib.hid (below_ext HB.out hb4); have KN := Lib.hid hk; have tok2 : True := trivial; clear hk hb4 _t tok1)
    | (refine R.rowStore (cs := #[.int .u64 (n : Int), .int .u64 0, .int .i64 0, .int .u32 0]) rfl 89 (.tmp 7) (.tmp 25) rfl KN.out rfl rfl info_note rfl (ones_note _ _ _ _) ?_; intro w5 hk hg; replace HB := Lib.hid (below_at HB.out hg (by omega) KN.out.lt); replace KX := Lib.hid (KX.out.grown hg (by omega)); replace KR := Lib.hid (KR.out.grown hg (by omega)); replace O1 := Lib.hid (Byts.apart O1.out KN.out hg (by decide)); replace KN := Lib.hid hk; have hz5 := hg.size; clear hk hg)
    | (go_at_call_of 44 (Value.int .i64 0); refine (P1.out _ _ c44 cm _ (by have h := O1.out.reads; rw [HD.out] at h; exact h)).mono ?_; rintro e w6 ⟨rfl, hb6⟩; replace KX := Lib.hid (KX.out.below hb6); replace KR := Lib.hid (KR.out.below hb6); replace O1 := Lib.hid (O1.out.below hb6); replace KN := Lib.hid (KN.out.below hb6); replace HB := Lib.hid (below_ext HB.out hb6); have hz6 := hb6.size; clear hb6)
    | (refine rowSet rfl _ (.tmp 31) (.tmp 29) rfl KN.out 1 (show (1 : Nat) < 4 by decide) rfl _ rfl rfl rfl info_u64 ?_; intro w7 hk hg; replace HB := Lib.hid (below_at HB.out hg (by omega) KN.out.lt); replace KX := Lib.hid (KX.out.grown hg (by omega)); replace KR := Lib.hid (KR.out.grown hg (by omega)); replace O1 := Lib.hid (Byts.apart O1.out KN.out hg (by decide)); replace KN := Lib.hid (show Row 89 _ _ #[.int .u64 (n : Int), .int .u64 (a : Int), .int .i64 0, .int .u32 0] from hk); have hz7 := hg.size; clear hk hg)
    | (go_at_call_of 44 (Value.int .i64 2); refine (P2.out _ _ c44 cm _ (by have h := O1.out.reads; rw [HD.out] at h; exact h)).mono ?_; rintro e w8 ⟨rfl, hb8⟩; replace KX := Lib.hid (KX.out.below hb8); replace KR := Lib.hid (KR.out.below hb8); replace O1 := Lib.hid (O1.out.below hb8); replace KN := Lib.hid (KN.out.below hb8); replace HB := Lib.hid (below_ext HB.out hb8); have hz8 := hb8.size; clear hb8)
    | (go_at_call_of 44 (Value.int .i64 10); refine (P3.out _ _ c44 cm _ (by have h := O1.out.reads; rw [HD.out] at h; exact h)).mono ?_; rintro e w9 ⟨rfl, hb9⟩; replace KX := Lib.hid (KX.out.below hb9); replace KR := Lib.hid (KR.out.below hb9); replace O1 := Lib.hid (O1.out.below hb9); replace KN := Lib.hid (KN.out.below hb9); replace HB := Lib.hid (below_ext HB.out hb9); have hz9 := hb9.size; clear hb9)
    | (refine rowSet rfl _ (.tmp 46) (.tmp 43) rfl KN.out 2 (show (2 : Nat) < 4 by decide) rfl _ rfl rfl rfl info_int ?_; intro w10 hk hg; replace HB := Lib.hid (below_at HB.out hg (by omega) KN.out.lt); replace KX := Lib.hid (KX.out.grown hg (by omega)); replace KR := Lib.hid (KR.out.grown hg (by omega)); replace O1 := Lib.hid (Byts.apart O1.out KN.out hg (by decide)); replace KN := Lib.hid (show Row 89 _ _ #[.int .u64 (n : Int), .int .u64 (a : Int), .int .i64 (c : Int), .int .u32 0] from hk); have hz10 := hg.size; clear hk hg)
    | (refine rowSet rfl _ (.tmp 47) (.tmp 45) rfl KN.out 3 (show (3 : Nat) < 4 by decide) rfl _ rfl rfl rfl info_u32 ?_; intro w11 hk hg; replace HB := Lib.hid (below_at HB.out hg (by omega) KN.out.lt); replace KX := Lib.hid (KX.out.grown hg (by omega)); replace KR := Lib.hid (KR.out.grown hg (by omega)); replace O1 := Lib.hid (Byts.apart O1.out KN.out hg (by decide)); replace KN := Lib.hid (show Row 89 _ _ #[.int .u64 (n : Int), .int .u64 (a : Int), .int .i64 (c : Int), .int .u32 (m : Int)] from hk); have hz11 := hg.size; clear hk hg)
    | (refine rowLoad rfl 89 (.tmp 7) rfl KN.out rfl Try.underlying89 rfl info_note ?_)
    | (go_at_call 77; refine (PP.out _).mono ?_; rintro e w12 ⟨rfl, hb12⟩; replace KX := Lib.hid (KX.out.below hb12); replace KR := Lib.hid (KR.out.below hb12); replace O1 := Lib.hid (O1.out.below hb12); replace KN := Lib.hid (KN.out.below hb12); replace HB := Lib.hid (below_ext HB.out hb12); have hz12 := hb12.size; clear hb12)
    | (have _t := tok2; refine blkAlloc rfl rfl ?_; intro w13 hk hb13 hz13; replace KX := Lib.hid (KX.out.below hb13); replace KR := Lib.hid (KR.out.below hb13); replace O1 := Lib.hid (O1.out.below hb13); replace KN := Lib.hid (KN.out.below hb13); replace HB := Lib.hid (below_ext HB.out hb13); have KY := Lib.hid hk; have tok3 : True := trivial; clear hk hb13 _t tok2)
    | (refine blkStore rfl (.tmp 12) (.tmp 51) rfl KY.out rfl rfl HY.out ?_; intro w14 hk hg; replace HB := Lib.hid (below_at HB.out hg (by omega) KY.out.lt); replace KX := Lib.hid (KX.out.grown hg (by omega)); replace KR := Lib.hid (KR.out.grown hg (by omega)); replace O1 := Lib.hid (Byts.apart O1.out KY.out.2 hg (by decide)); replace KN := Lib.hid (KN.out.grown hg (by omega)); replace KY := Lib.hid hk; have hz14 := hg.size; clear hk hg)
    | (refine blkLoad rfl (.tmp 12) rfl KY.out rfl ?_)
    | (refine R.rowStore rfl 89 (.tmp 2) (.tmp 60) rfl KR.out rfl rfl info_note rfl (ones_note _ _ _ _) ?_; intro w15 hk hg; replace HB := Lib.hid (below_at HB.out hg (by omega) KR.out.lt); replace KX := Lib.hid (KX.out.grown hg (by omega)); replace O1 := Lib.hid (Byts.apart O1.out KR.out hg (by decide)); replace KN := Lib.hid (KN.out.grown hg (by omega)); replace KY := Lib.hid (KY.out.grown hg (by omega)); replace KR := Lib.hid hk; have hz15 := hg.size; clear hk hg))
  exact bodyPost_ret (v := .tuple #[.agg #[.int .u64 0, .int .u64 0, .int .i64 0, .int .u32 0], .int .i64 5]) (ret_row rfl _ _ rfl KR.out rfl rfl) rfl ⟨rfl, HB.out⟩
set_option maxRecDepth 100000 in
set_option maxHeartbeats 1000000 in
theorem Get_3 (xs : List Int) (HX : Hid (xs.length = 64)) (D : List Int) (HD : Hid (D.length = 44)) (n a c m : Nat) (nl : n < 18446744073709551616) (al : a < 18446744073709551616) (cl : c < 65536) (ml : m < 4294967296)
    (PG : Hid (∀ w : World, Calls Try.prog 59 #[blk xs] w fun e w' => (∃ A k, e = .returned (.tuple #[.int .u64 (n : Int), .slice A 44 k, .int .i64 0]) ∧ Byts w.heap.size w' A k D) ∧ Below w.heap.size w w'))
    (P1 : Hid (∀ (A : Option Addr) (k : Nat), 44 ≤ k → k ≤ 9223372036854775807 → ∀ w : World, ReadsInt w .u8 A 44 D → Calls Try.prog 44 #[.slice A 44 k, .int .i64 0, .int .i64 8] w fun e w' => e = .returned (.tuple #[.int .u64 (a : Int), .int .i64 0]) ∧ Below w.heap.size w w'))
    (P2 : Hid (∀ (A : Option Addr) (k : Nat), 44 ≤ k → k ≤ 9223372036854775807 → ∀ w : World, ReadsInt w .u8 A 44 D → Calls Try.prog 44 #[.slice A 44 k, .int .i64 8, .int .i64 2] w fun e w' => e = .returned (.tuple #[.int .u64 (c : Int), .int .i64 0]) ∧ Below w.heap.size w w'))
    (P3 : Hid (∀ (A : Option Addr) (k : Nat), 44 ≤ k → k ≤ 9223372036854775807 → ∀ w : World, ReadsInt w .u8 A 44 D → Calls Try.prog 44 #[.slice A 44 k, .int .i64 10, .int .i64 4] w fun e w' => e = .returned (.tuple #[.int .u64 (m : Int), .int .i64 0]) ∧ Below w.heap.size w w'))
    (PP : Hid (∀ w : World, Calls Try.prog 77 #[nagg n a c m] w fun e w' => e = .returned (.tuple #[blk xs, .int .i64 0]) ∧ Below w.heap.size w w')) (HY : Hid (xs.length = 64)) (w : World) :
    Calls Try.prog 86 #[blk xs] w fun e w' => e = .returned (.tuple #[nagg n a c m, .int .i64 0]) ∧ Below w.heap.size w w' := by
  have HB := Lib.hid (Below.refl w.heap.size w)
  have tok0 : True := trivial
  go_enter Try.func86, Try.ntmps86
  go_wp2_with (first
    | (go_skip)
    | (refine blkBox rfl (.tmp 0) rfl rfl HX.out ?_; intro w1 hk hb1 hz1; replace HB := Lib.hid (below_ext HB.out hb1); have KX := Lib.hid hk; clear hk hb1)
    | (have _t := tok0; refine R.rowAlloc rfl 89 rfl _ zero_note ?_; intro w2 hk hb2 hz2; replace KX := Lib.hid (KX.out.below hb2); replace HB := Lib.hid (below_ext HB.out hb2); have KR := Lib.hid hk; have tok1 : True := trivial; clear hk hb2 _t tok0)
    | (refine blkLoad rfl (.tmp 1) rfl KX.out rfl ?_)
    | (go_at_call 59; refine (PG.out _).mono ?_; rintro e w3 ⟨⟨A1, c1, rfl, o1⟩, hb3⟩; have O1 := Lib.hid o1; have c44 : 44 ≤ c1 := (by have h := o1.le; rw [HD.out] at h; exact h); have cm := o1.cap; replace KX := Lib.hid (KX.out.below hb3); replace KR := Lib.hid (KR.out.below hb3); replace HB := Lib.hid (below_ext HB.out hb3); have hz3 := hb3.size; clear hb3)
    | (have _t := tok1; refine R.rowAlloc rfl 89 rfl _ zero_note ?_; intro w4 hk hb4 hz4; replace KX := Lib.hid (KX.out.below hb4); replace KR := Lib.hid (KR.out.below hb4); replace O1 := Lib.hid (O1.out.below hb4); replace HB := Lib.hid (below_ext HB.out hb4); have KN := Lib.hid hk; have tok2 : True := trivial; clear hk hb4 _t tok1)
    | (refine R.rowStore (cs := #[.int .u64 (n : Int), .int .u64 0, .int .i64 0, .int .u32 0]) rfl 89 (.tmp 7) (.tmp 25) rfl KN.out rfl rfl info_note rfl (ones_note _ _ _ _) ?_; intro w5 hk hg; replace HB := Lib.hid (below_at HB.out hg (by omega) KN.out.lt); replace KX := Lib.hid (KX.out.grown hg (by omega)); replace KR := Lib.hid (KR.out.grown hg (by omega)); replace O1 := Lib.hid (Byts.apart O1.out KN.out hg (by decide)); replace KN := Lib.hid hk; have hz5 := hg.size; clear hk hg)
    | (go_at_call_of 44 (Value.int .i64 0); refine (P1.out _ _ c44 cm _ (by have h := O1.out.reads; rw [HD.out] at h; exact h)).mono ?_; rintro e w6 ⟨rfl, hb6⟩; replace KX := Lib.hid (KX.out.below hb6); replace KR := Lib.hid (KR.out.below hb6); replace O1 := Lib.hid (O1.out.below hb6); replace KN := Lib.hid (KN.out.below hb6); replace HB := Lib.hid (below_ext HB.out hb6); have hz6 := hb6.size; clear hb6)
    | (refine rowSet rfl _ (.tmp 31) (.tmp 29) rfl KN.out 1 (show (1 : Nat) < 4 by decide) rfl _ rfl rfl rfl info_u64 ?_; intro w7 hk hg; replace HB := Lib.hid (below_at HB.out hg (by omega) KN.out.lt); replace KX := Lib.hid (KX.out.grown hg (by omega)); replace KR := Lib.hid (KR.out.grown hg (by omega)); replace O1 := Lib.hid (Byts.apart O1.out KN.out hg (by decide)); replace KN := Lib.hid (show Row 89 _ _ #[.int .u64 (n : Int), .int .u64 (a : Int), .int .i64 0, .int .u32 0] from hk); have hz7 := hg.size; clear hk hg)
    | (go_at_call_of 44 (Value.int .i64 2); refine (P2.out _ _ c44 cm _ (by have h := O1.out.reads; rw [HD.out] at h; exact h)).mono ?_; rintro e w8 ⟨rfl, hb8⟩; replace KX := Lib.hid (KX.out.below hb8); replace KR := Lib.hid (KR.out.below hb8); replace O1 := Lib.hid (O1.out.below hb8); replace KN := Lib.hid (KN.out.below hb8); replace HB := Lib.hid (below_ext HB.out hb8); have hz8 := hb8.size; clear hb8)
    | (go_at_call_of 44 (Value.int .i64 10); refine (P3.out _ _ c44 cm _ (by have h := O1.out.reads; rw [HD.out] at h; exact h)).mono ?_; rintro e w9 ⟨rfl, hb9⟩; replace KX := Lib.hid (KX.out.below hb9); replace KR := Lib.hid (KR.out.below hb9); replace O1 := Lib.hid (O1.out.below hb9); replace KN := Lib.hid (KN.out.below hb9); replace HB := Lib.hid (below_ext HB.out hb9); have hz9 := hb9.size; clear hb9)
    | (refine rowSet rfl _ (.tmp 46) (.tmp 43) rfl KN.out 2 (show (2 : Nat) < 4 by decide) rfl _ rfl rfl rfl info_int ?_; intro w10 hk hg; replace HB := Lib.hid (below_at HB.out hg (by omega) KN.out.lt); replace KX := Lib.hid (KX.out.grown hg (by omega)); replace KR := Lib.hid (KR.out.grown hg (by omega)); replace O1 := Lib.hid (Byts.apart O1.out KN.out hg (by decide)); replace KN := Lib.hid (show Row 89 _ _ #[.int .u64 (n : Int), .int .u64 (a : Int), .int .i64 (c : Int), .int .u32 0] from hk); have hz10 := hg.size; clear hk hg)
    | (refine rowSet rfl _ (.tmp 47) (.tmp 45) rfl KN.out 3 (show (3 : Nat) < 4 by decide) rfl _ rfl rfl rfl info_u32 ?_; intro w11 hk hg; replace HB := Lib.hid (below_at HB.out hg (by omega) KN.out.lt); replace KX := Lib.hid (KX.out.grown hg (by omega)); replace KR := Lib.hid (KR.out.grown hg (by omega)); replace O1 := Lib.hid (Byts.apart O1.out KN.out hg (by decide)); replace KN := Lib.hid (show Row 89 _ _ #[.int .u64 (n : Int), .int .u64 (a : Int), .int .i64 (c : Int), .int .u32 (m : Int)] from hk); have hz11 := hg.size; clear hk hg)
    | (refine rowLoad rfl 89 (.tmp 7) rfl KN.out rfl Try.underlying89 rfl info_note ?_)
    | (go_at_call 77; refine (PP.out _).mono ?_; rintro e w12 ⟨rfl, hb12⟩; replace KX := Lib.hid (KX.out.below hb12); replace KR := Lib.hid (KR.out.below hb12); replace O1 := Lib.hid (O1.out.below hb12); replace KN := Lib.hid (KN.out.below hb12); replace HB := Lib.hid (below_ext HB.out hb12); have hz12 := hb12.size; clear hb12)
    | (have _t := tok2; refine blkAlloc rfl rfl ?_; intro w13 hk hb13 hz13; replace KX := Lib.hid (KX.out.below hb13); replace KR := Lib.hid (KR.out.below hb13); replace O1 := Lib.hid (O1.out.below hb13); replace KN := Lib.hid (KN.out.below hb13); replace HB := Lib.hid (below_ext HB.out hb13); have KY := Lib.hid hk; have tok3 : True := trivial; clear hk hb13 _t tok2)
    | (refine blkStore rfl (.tmp 12) (.tmp 51) rfl KY.out rfl rfl HY.out ?_; intro w14 hk hg; replace HB := Lib.hid (below_at HB.out hg (by omega) KY.out.lt); replace KX := Lib.hid (KX.out.grown hg (by omega)); replace KR := Lib.hid (KR.out.grown hg (by omega)); replace O1 := Lib.hid (Byts.apart O1.out KY.out.2 hg (by decide)); replace KN := Lib.hid (KN.out.grown hg (by omega)); replace KY := Lib.hid hk; have hz14 := hg.size; clear hk hg)
    | (refine blkLoad rfl (.tmp 12) rfl KY.out rfl ?_)
    | (refine blkNeq rfl (.tmp 56) (.tmp 57) _ rfl rfl rfl HX.out HX.out false (by simp) ?_)
    | (refine R.rowStore (cs := #[.int .u64 (n : Int), .int .u64 (a : Int), .int .i64 (c : Int), .int .u32 (m : Int)]) rfl 89 (.tmp 2) (.tmp 61) rfl KR.out rfl rfl info_note rfl (ones_note _ _ _ _) ?_; intro w15 hk hg; replace HB := Lib.hid (below_at HB.out hg (by omega) KR.out.lt); replace KX := Lib.hid (KX.out.grown hg (by omega)); replace O1 := Lib.hid (Byts.apart O1.out KR.out hg (by decide)); replace KN := Lib.hid (KN.out.grown hg (by omega)); replace KY := Lib.hid (KY.out.grown hg (by omega)); replace KR := Lib.hid hk; have hz15 := hg.size; clear hk hg))
  exact bodyPost_ret (v := .tuple #[.agg #[.int .u64 (n : Int), .int .u64 (a : Int), .int .i64 (c : Int), .int .u32 (m : Int)], .int .i64 0]) (ret_row rfl _ _ rfl KR.out rfl rfl) rfl ⟨rfl, HB.out⟩
set_option maxRecDepth 100000 in
set_option maxHeartbeats 1000000 in
theorem Get_4 (xs : List Int) (HX : Hid (xs.length = 64)) (D : List Int) (HD : Hid (D.length = 44)) (n a c m : Nat) (nl : n < 18446744073709551616) (al : a < 18446744073709551616) (cl : c < 65536) (ml : m < 4294967296)
    (PG : Hid (∀ w : World, Calls Try.prog 59 #[blk xs] w fun e w' => (∃ A k, e = .returned (.tuple #[.int .u64 (n : Int), .slice A 44 k, .int .i64 0]) ∧ Byts w.heap.size w' A k D) ∧ Below w.heap.size w w'))
    (P1 : Hid (∀ (A : Option Addr) (k : Nat), 44 ≤ k → k ≤ 9223372036854775807 → ∀ w : World, ReadsInt w .u8 A 44 D → Calls Try.prog 44 #[.slice A 44 k, .int .i64 0, .int .i64 8] w fun e w' => e = .returned (.tuple #[.int .u64 (a : Int), .int .i64 0]) ∧ Below w.heap.size w w'))
    (P2 : Hid (∀ (A : Option Addr) (k : Nat), 44 ≤ k → k ≤ 9223372036854775807 → ∀ w : World, ReadsInt w .u8 A 44 D → Calls Try.prog 44 #[.slice A 44 k, .int .i64 8, .int .i64 2] w fun e w' => e = .returned (.tuple #[.int .u64 (c : Int), .int .i64 0]) ∧ Below w.heap.size w w'))
    (P3 : Hid (∀ (A : Option Addr) (k : Nat), 44 ≤ k → k ≤ 9223372036854775807 → ∀ w : World, ReadsInt w .u8 A 44 D → Calls Try.prog 44 #[.slice A 44 k, .int .i64 10, .int .i64 4] w fun e w' => e = .returned (.tuple #[.int .u64 (m : Int), .int .i64 0]) ∧ Below w.heap.size w w'))
 (ys : List Int) (HN : Hid (decide (ys = xs) = !true))     (PP : Hid (∀ w : World, Calls Try.prog 77 #[nagg n a c m] w fun e w' => e = .returned (.tuple #[blk ys, .int .i64 0]) ∧ Below w.heap.size w w')) (HY : Hid (ys.length = 64)) (w : World) :
    Calls Try.prog 86 #[blk xs] w fun e w' => e = .returned (.tuple #[nagg 0 0 0 0, .int .i64 5]) ∧ Below w.heap.size w w' := by
  have HB := Lib.hid (Below.refl w.heap.size w)
  have tok0 : True := trivial
  go_enter Try.func86, Try.ntmps86
  go_wp2_with (first
    | (go_skip)
    | (refine blkBox rfl (.tmp 0) rfl rfl HX.out ?_; intro w1 hk hb1 hz1; replace HB := Lib.hid (below_ext HB.out hb1); have KX := Lib.hid hk; clear hk hb1)
    | (have _t := tok0; refine R.rowAlloc rfl 89 rfl _ zero_note ?_; intro w2 hk hb2 hz2; replace KX := Lib.hid (KX.out.below hb2); replace HB := Lib.hid (below_ext HB.out hb2); have KR := Lib.hid hk; have tok1 : True := trivial; clear hk hb2 _t tok0)
    | (refine blkLoad rfl (.tmp 1) rfl KX.out rfl ?_)
    | (go_at_call 59; refine (PG.out _).mono ?_; rintro e w3 ⟨⟨A1, c1, rfl, o1⟩, hb3⟩; have O1 := Lib.hid o1; have c44 : 44 ≤ c1 := (by have h := o1.le; rw [HD.out] at h; exact h); have cm := o1.cap; replace KX := Lib.hid (KX.out.below hb3); replace KR := Lib.hid (KR.out.below hb3); replace HB := Lib.hid (below_ext HB.out hb3); have hz3 := hb3.size; clear hb3)
    | (have _t := tok1; refine R.rowAlloc rfl 89 rfl _ zero_note ?_; intro w4 hk hb4 hz4; replace KX := Lib.hid (KX.out.below hb4); replace KR := Lib.hid (KR.out.below hb4); replace O1 := Lib.hid (O1.out.below hb4); replace HB := Lib.hid (below_ext HB.out hb4); have KN := Lib.hid hk; have tok2 : True := trivial; clear hk hb4 _t tok1)
    | (refine R.rowStore (cs := #[.int .u64 (n : Int), .int .u64 0, .int .i64 0, .int .u32 0]) rfl 89 (.tmp 7) (.tmp 25) rfl KN.out rfl rfl info_note rfl (ones_note _ _ _ _) ?_; intro w5 hk hg; replace HB := Lib.hid (below_at HB.out hg (by omega) KN.out.lt); replace KX := Lib.hid (KX.out.grown hg (by omega)); replace KR := Lib.hid (KR.out.grown hg (by omega)); replace O1 := Lib.hid (Byts.apart O1.out KN.out hg (by decide)); replace KN := Lib.hid hk; have hz5 := hg.size; clear hk hg)
    | (go_at_call_of 44 (Value.int .i64 0); refine (P1.out _ _ c44 cm _ (by have h := O1.out.reads; rw [HD.out] at h; exact h)).mono ?_; rintro e w6 ⟨rfl, hb6⟩; replace KX := Lib.hid (KX.out.below hb6); replace KR := Lib.hid (KR.out.below hb6); replace O1 := Lib.hid (O1.out.below hb6); replace KN := Lib.hid (KN.out.below hb6); replace HB := Lib.hid (below_ext HB.out hb6); have hz6 := hb6.size; clear hb6)
    | (refine rowSet rfl _ (.tmp 31) (.tmp 29) rfl KN.out 1 (show (1 : Nat) < 4 by decide) rfl _ rfl rfl rfl info_u64 ?_; intro w7 hk hg; replace HB := Lib.hid (below_at HB.out hg (by omega) KN.out.lt); replace KX := Lib.hid (KX.out.grown hg (by omega)); replace KR := Lib.hid (KR.out.grown hg (by omega)); replace O1 := Lib.hid (Byts.apart O1.out KN.out hg (by decide)); replace KN := Lib.hid (show Row 89 _ _ #[.int .u64 (n : Int), .int .u64 (a : Int), .int .i64 0, .int .u32 0] from hk); have hz7 := hg.size; clear hk hg)
    | (go_at_call_of 44 (Value.int .i64 2); refine (P2.out _ _ c44 cm _ (by have h := O1.out.reads; rw [HD.out] at h; exact h)).mono ?_; rintro e w8 ⟨rfl, hb8⟩; replace KX := Lib.hid (KX.out.below hb8); replace KR := Lib.hid (KR.out.below hb8); replace O1 := Lib.hid (O1.out.below hb8); replace KN := Lib.hid (KN.out.below hb8); replace HB := Lib.hid (below_ext HB.out hb8); have hz8 := hb8.size; clear hb8)
    | (go_at_call_of 44 (Value.int .i64 10); refine (P3.out _ _ c44 cm _ (by have h := O1.out.reads; rw [HD.out] at h; exact h)).mono ?_; rintro e w9 ⟨rfl, hb9⟩; replace KX := Lib.hid (KX.out.below hb9); replace KR := Lib.hid (KR.out.below hb9); replace O1 := Lib.hid (O1.out.below hb9); replace KN := Lib.hid (KN.out.below hb9); replace HB := Lib.hid (below_ext HB.out hb9); have hz9 := hb9.size; clear hb9)
    | (refine rowSet rfl _ (.tmp 46) (.tmp 43) rfl KN.out 2 (show (2 : Nat) < 4 by decide) rfl _ rfl rfl rfl info_int ?_; intro w10 hk hg; replace HB := Lib.hid (below_at HB.out hg (by omega) KN.out.lt); replace KX := Lib.hid (KX.out.grown hg (by omega)); replace KR := Lib.hid (KR.out.grown hg (by omega)); replace O1 := Lib.hid (Byts.apart O1.out KN.out hg (by decide)); replace KN := Lib.hid (show Row 89 _ _ #[.int .u64 (n : Int), .int .u64 (a : Int), .int .i64 (c : Int), .int .u32 0] from hk); have hz10 := hg.size; clear hk hg)
    | (refine rowSet rfl _ (.tmp 47) (.tmp 45) rfl KN.out 3 (show (3 : Nat) < 4 by decide) rfl _ rfl rfl rfl info_u32 ?_; intro w11 hk hg; replace HB := Lib.hid (below_at HB.out hg (by omega) KN.out.lt); replace KX := Lib.hid (KX.out.grown hg (by omega)); replace KR := Lib.hid (KR.out.grown hg (by omega)); replace O1 := Lib.hid (Byts.apart O1.out KN.out hg (by decide)); replace KN := Lib.hid (show Row 89 _ _ #[.int .u64 (n : Int), .int .u64 (a : Int), .int .i64 (c : Int), .int .u32 (m : Int)] from hk); have hz11 := hg.size; clear hk hg)
    | (refine rowLoad rfl 89 (.tmp 7) rfl KN.out rfl Try.underlying89 rfl info_note ?_)
    | (go_at_call 77; refine (PP.out _).mono ?_; rintro e w12 ⟨rfl, hb12⟩; replace KX := Lib.hid (KX.out.below hb12); replace KR := Lib.hid (KR.out.below hb12); replace O1 := Lib.hid (O1.out.below hb12); replace KN := Lib.hid (KN.out.below hb12); replace HB := Lib.hid (below_ext HB.out hb12); have hz12 := hb12.size; clear hb12)
    | (have _t := tok2; refine blkAlloc rfl rfl ?_; intro w13 hk hb13 hz13; replace KX := Lib.hid (KX.out.below hb13); replace KR := Lib.hid (KR.out.below hb13); replace O1 := Lib.hid (O1.out.below hb13); replace KN := Lib.hid (KN.out.below hb13); replace HB := Lib.hid (below_ext HB.out hb13); have KY := Lib.hid hk; have tok3 : True := trivial; clear hk hb13 _t tok2)
    | (refine blkStore rfl (.tmp 12) (.tmp 51) rfl KY.out rfl rfl HY.out ?_; intro w14 hk hg; replace HB := Lib.hid (below_at HB.out hg (by omega) KY.out.lt); replace KX := Lib.hid (KX.out.grown hg (by omega)); replace KR := Lib.hid (KR.out.grown hg (by omega)); replace O1 := Lib.hid (Byts.apart O1.out KY.out.2 hg (by decide)); replace KN := Lib.hid (KN.out.grown hg (by omega)); replace KY := Lib.hid hk; have hz14 := hg.size; clear hk hg)
    | (refine blkLoad rfl (.tmp 12) rfl KY.out rfl ?_)
    | (refine blkNeq rfl (.tmp 56) (.tmp 57) _ rfl rfl rfl HY.out HX.out true HN.out ?_)
    | (refine R.rowStore rfl 89 (.tmp 2) (.tmp 60) rfl KR.out rfl rfl info_note rfl (ones_note _ _ _ _) ?_; intro w15 hk hg; replace HB := Lib.hid (below_at HB.out hg (by omega) KR.out.lt); replace KX := Lib.hid (KX.out.grown hg (by omega)); replace O1 := Lib.hid (Byts.apart O1.out KR.out hg (by decide)); replace KN := Lib.hid (KN.out.grown hg (by omega)); replace KY := Lib.hid (KY.out.grown hg (by omega)); replace KR := Lib.hid hk; have hz15 := hg.size; clear hk hg))
  exact bodyPost_ret (v := .tuple #[.agg #[.int .u64 0, .int .u64 0, .int .i64 0, .int .u32 0], .int .i64 5]) (ret_row rfl _ _ rfl KR.out rfl rfl) rfl ⟨rfl, HB.out⟩
end Go.Proofs.Ytdchcggllcgokaa.T

namespace Go.Proofs.Ytdchcggllcgokaa.T
open Go.RowKit Go.Proofs.Ytdchcggllcgokaa.L Go.Proofs.Ytdchcggllcgokaa.U Go.Proofs.Ytdchcggllcgokaa.R Go.Proofs.Ytdchcggllcgokaa.E Go.Proofs.YtdchcggllcgokaaW.PrintWords
set_option linter.unusedVariables false
set_option linter.unusedSimpArgs false

theorem gots_lt {xs : List Int} (hw : Wf8 xs) : (gots xs).1 < 18446744073709551616 := by
  unfold gots
  split
  · exact Nat.zero_lt_succ _
  · split
    · exact Nat.zero_lt_succ _
    · exact vle_lt _ (bat_lt hw 0) 8
theorem gotN_err {xs : List Int} (h0 : ¬ (gots xs).2.2 = 0) : gotN xs = ((0, 0, 0, 0), (gots xs).2.2) := by rw [gotN, if_pos h0]
theorem gotN_ok {xs D : List Int} {n : Nat} (hg : gots xs = (n, D, 0)) : gotN xs = if mayN n (fA D) (fC D) = true ∧ D.drop 14 = Z 30 then ((n, fA D, fC D, fM D), 0) else ((0, 0, 0, 0), 5) := by
  rw [gotN, hg]
  exact if_neg (fun h => h rfl)
theorem note_no {n a c m : Nat} (hm : mayN n a c = false) : notes n a c m = (zeros, 2) := by
  rw [notes, if_neg (by rw [hm]; exact Bool.false_ne_true)]
theorem note_ok {n a c m : Nat} (hm : mayN n a c = true) : notes n a c m = (sealed n (nbody a c m), 0) := by
  rw [notes, if_pos hm, Int.toNat_natCast]
theorem got_44 {xs D : List Int} {n : Nat} (hl : xs.length = 64) (hw : Wf8 xs) (hg : gots xs = (n, D, 0)) (hDl : D.length = 44) (w : World) :
    Calls Try.prog 59 #[blk xs] w fun e w' => (∃ A k, e = .returned (.tuple #[.int .u64 (n : Int), .slice A 44 k, .int .i64 0]) ∧ Byts w.heap.size w' A k D) ∧ Below w.heap.size w w' := by
  refine (Get_seal xs hl hw w).mono ?_
  rintro e w' ⟨⟨A, k, he, ho, _⟩, hb⟩
  rw [hg] at he ho
  rw [← hDl]
  exact ⟨⟨A, k, he, ho⟩, hb⟩
abbrev AtD (f o s : Nat) (D : List Int) (v : Nat) : Prop := ∀ (A : Option Addr) (k : Nat), 44 ≤ k → k ≤ 9223372036854775807 → ∀ w : World, ReadsInt w .u8 A 44 D → Calls Try.prog f #[.slice A 44 k, .int .i64 (o : Int), .int .i64 (s : Int)] w fun e w' => e = .returned (.tuple #[.int .u64 (v : Int), .int .i64 0]) ∧ Below w.heap.size w w'
theorem got_A {D : List Int} (hw : Wf8 D) (hl : D.length = 44) : AtD 44 0 8 D (fA D) := fun A k h1 h2 w hr => getD hw hl 0 8 (by decide) (by decide) (by decide) (fA D) rfl A k h1 h2 w hr
theorem got_C {D : List Int} (hw : Wf8 D) (hl : D.length = 44) : AtD 44 8 2 D (fC D) := fun A k h1 h2 w hr => getD hw hl 8 2 (by decide) (by decide) (by decide) (fC D) rfl A k h1 h2 w hr
theorem got_M {D : List Int} (hw : Wf8 D) (hl : D.length = 44) : AtD 44 10 4 D (fM D) := fun A k h1 h2 w hr => getD hw hl 10 4 (by decide) (by decide) (by decide) (fM D) rfl A k h1 h2 w hr
abbrev naggQ (q : Nat × Nat × Nat × Nat) : Value := nagg q.1 q.2.1 (q.2.2.1 : Int) q.2.2.2
def GetQ (xs : List Int) (w : World) (r : (Nat × Nat × Nat × Nat) × Int) : Prop := Calls Try.prog 86 #[blk xs] w fun e w' => e = .returned (.tuple #[naggQ r.1, .int .i64 r.2]) ∧ Below w.heap.size w w'
theorem Get_q1 (xs : List Int) (hl : xs.length = 64) (n : Nat) (k : Int) (hk : (k != 0) = true) (PG : GetN xs n k) (w : World) : GetQ xs w ((0, 0, 0, 0), k) :=
  Get_1 xs (Lib.hid hl) n k hk (Lib.hid PG) w
section
variable (xs D : List Int) (n a c m : Nat) (hl : xs.length = 64) (hDl : D.length = 44) (nl : n < 18446744073709551616) (al : a < 18446744073709551616) (cl : c < 65536) (ml : m < 4294967296)
  (PG : ∀ w : World, Calls Try.prog 59 #[blk xs] w fun e w' => (∃ A k, e = .returned (.tuple #[.int .u64 (n : Int), .slice A 44 k, .int .i64 0]) ∧ Byts w.heap.size w' A k D) ∧ Below w.heap.size w w')
  (P1 : AtD 44 0 8 D a) (P2 : AtD 44 8 2 D c) (P3 : AtD 44 10 4 D m)
  (hp : ∀ w : World, Calls Try.prog 77 #[nagg n a c m] w fun e w' => e = .returned (.tuple #[blk (notes n a c m).1, .int .i64 (notes n a c m).2]) ∧ Below w.heap.size w w') (w : World)
include hl hDl nl al cl ml PG P1 P2 P3 hp
theorem Get_q2 (hm : mayN n a c = false) : GetQ xs w ((0, 0, 0, 0), 5) := by
  rw [note_no hm] at hp
  exact Get_2 xs (Lib.hid hl) D (Lib.hid hDl) n a c m nl al cl ml (Lib.hid PG) (Lib.hid P1) (Lib.hid P2) (Lib.hid P3) (Lib.hid hp) (Lib.hid zeros_length) w
theorem Get_q3 (hm : mayN n a c = true) (he : sealed n (nbody a c m) = xs) : GetQ xs w ((n, a, c, m), 0) := by
  rw [note_ok hm, he] at hp
  exact Get_3 xs (Lib.hid hl) D (Lib.hid hDl) n a c m nl al cl ml (Lib.hid PG) (Lib.hid P1) (Lib.hid P2) (Lib.hid P3) (Lib.hid hp) (Lib.hid hl) w
theorem Get_q4 (hm : mayN n a c = true) (he : ¬ sealed n (nbody a c m) = xs) : GetQ xs w ((0, 0, 0, 0), 5) := by
  rw [note_ok hm] at hp
  have h14 : (nbody a c m).length ≤ 44 := by rw [nbody_length]; omega
  have hsl := sealed_length (n := n) h14
  generalize sealed n (nbody a c m) = ys at hp he hsl
  exact Get_4 xs (Lib.hid hl) D (Lib.hid hDl) n a c m nl al cl ml (Lib.hid PG) (Lib.hid P1) (Lib.hid P2) (Lib.hid P3) ys (Lib.hid (by simp [he])) (Lib.hid hp) (Lib.hid hsl) w
end
theorem Get_note (xs : List Int) (hl : xs.length = 64) (hw : Wf8 xs) (w : World) : GetQ xs w (gotN xs) := by
  by_cases h0 : (gots xs).2.2 = 0
  · have hn := gots_lt hw
    obtain ⟨⟨n, D, k⟩, hg⟩ : ∃ q, gots xs = q := ⟨_, rfl⟩
    rw [hg] at h0 hn
    obtain rfl : k = 0 := h0
    obtain ⟨n0, hDi, hs⟩ := reseal hl hw hg
    have hDl : D.length = 44 := by rw [hDi]; exact inner_length hl
    have hDw : Wf8 D := by rw [hDi]; exact inner_wf hw
    have hsn := same_note hl hw hg
    have PG := got_44 hl hw hg hDl
    rw [gotN_ok hg]
    have al := fA_lt hDw
    have cl := fC_lt hDw
    have ml := fM_lt hDw
    have P1 := got_A hDw hDl
    have P2 := got_C hDw hDl
    have P3 := got_M hDw hDl
    clear hDi hs hDw hg n0
    generalize fA D = a at *
    generalize fC D = c at *
    generalize fM D = m at *
    have hp := fun w => Put_any n a (c : Int) m hn al ⟨by omega, by omega⟩ ml w
    by_cases hm : mayN n a c = true
    · by_cases hz : D.drop 14 = Z 30
      · rw [if_pos ⟨hm, hz⟩]
        exact Get_q3 xs D n a c m hl hDl hn al cl ml PG P1 P2 P3 hp w hm (hsn.2 hz)
      · rw [if_neg (fun h => hz h.2)]
        exact Get_q4 xs D n a c m hl hDl hn al cl ml PG P1 P2 P3 hp w hm (fun h => hz (hsn.1 h))
    · rw [if_neg (fun h => hm h.1)]
      exact Get_q2 xs D n a c m hl hDl hn al cl ml PG P1 P2 P3 hp w (by simpa using hm)
  · rw [gotN_err h0]
    have hk := bne_iff_ne.2 h0
    have PG := get_n hl hw
    generalize (gots xs).2.2 = k at *
    generalize (gots xs).1 = n at *
    exact Get_q1 xs hl n k hk PG w
end Go.Proofs.Ytdchcggllcgokaa.T

namespace Go.Proofs.Ytdchcggllcgokaa.T
open Go.RowKit Go.Proofs.Ytdchcggllcgokaa.L Go.Proofs.Ytdchcggllcgokaa.U Go.Proofs.Ytdchcggllcgokaa.R Go.Proofs.Ytdchcggllcgokaa.E Go.Proofs.YtdchcggllcgokaaW.PrintWords
set_option linter.unusedVariables false
set_option linter.unusedSimpArgs false
set_option maxRecDepth 100000 in
set_option maxHeartbeats 1000000 in
theorem Slot_any (n : Nat) (hn : n < 18446744073709551616) (w : World) :
    Calls Try.prog 81 #[.int .u64 (n : Int)] w fun e w' => e = .returned (.int .i64 ((n % 8 : Nat) : Int)) ∧ Below w.heap.size w w' := by
  have e1 : (n : Int).tmod 8 = ((n % 8 : Nat) : Int) := by rw [Int.tmod_eq_emod_of_nonneg (by omega)]; omega
  have HB := Lib.hid (Below.refl w.heap.size w)
  go_enter Try.func81, Try.ntmps81
  go_wp2
  go_ret
  exact ⟨congrArg (fun z => Ending.returned (Value.int .i64 z)) (show (n : Int) % 8 = ((n % 8 : Nat) : Int) by omega), HB.out⟩
set_option maxRecDepth 100000 in
set_option maxHeartbeats 1000000 in
theorem rSlot_any (n : Nat) (hn : n < 18446744073709551616) (w : World) :
    Calls Try.prog 82 #[.int .u64 (n : Int)] w fun e w' => e = .returned (.int .i64 ((n % 8 : Nat) : Int)) ∧ Below w.heap.size w w' := by
  have e1 : (n : Int).tmod 8 = ((n % 8 : Nat) : Int) := by rw [Int.tmod_eq_emod_of_nonneg (by omega)]; omega
  have HB := Lib.hid (Below.refl w.heap.size w)
  go_enter Try.func82, Try.ntmps82
  go_wp2
  go_ret
  exact ⟨congrArg (fun z => Ending.returned (Value.int .i64 z)) (show (n : Int) % 8 = ((n % 8 : Nat) : Int) by omega), HB.out⟩
end Go.Proofs.Ytdchcggllcgokaa.T

namespace Go.Proofs.Ytdchcggllcgokaa.T
open Go.RowKit Go.Proofs.Ytdchcggllcgokaa.L Go.Proofs.Ytdchcggllcgokaa.U Go.Proofs.Ytdchcggllcgokaa.R Go.Proofs.Ytdchcggllcgokaa.E Go.Proofs.YtdchcggllcgokaaW.PrintWords
set_option linter.unusedVariables false
set_option linter.unusedSimpArgs false
set_option maxRecDepth 100000 in
set_option maxHeartbeats 1000000 in
theorem rGet_1 (xs : List Int) (HX : Hid (xs.length = 64)) (n : Nat) (k : Int) (hk : (k != 0) = true) (PG : Hid (rGetN xs n k)) (w : World) :
    Calls Try.prog 87 #[blk xs] w fun e w' => e = .returned (.tuple #[nagg 0 0 0 0, .int .i64 k]) ∧ Below w.heap.size w w' := by
  have HB := Lib.hid (Below.refl w.heap.size w)
  have tok0 : True := trivial
  go_enter Try.func87, Try.ntmps87
  go_wp2_with (first
    | (go_skip)
    | (refine blkBox rfl (.tmp 0) rfl rfl HX.out ?_; intro w1 hk hb1 hz1; replace HB := Lib.hid (below_ext HB.out hb1); have KX := Lib.hid hk; clear hk hb1)
    | (have _t := tok0; refine R.rowAlloc rfl 89 rfl _ zero_note ?_; intro w2 hk hb2 hz2; replace KX := Lib.hid (KX.out.below hb2); replace HB := Lib.hid (below_ext HB.out hb2); have KR := Lib.hid hk; have tok1 : True := trivial; clear hk hb2 _t tok0)
    | (refine blkLoad rfl (.tmp 1) rfl KX.out rfl ?_)
    | (go_at_call 60; refine (PG.out _).mono ?_; rintro e w3 ⟨⟨A1, c1, l1, rfl⟩, hb3⟩; replace KX := Lib.hid (KX.out.below hb3); replace KR := Lib.hid (KR.out.below hb3); replace HB := Lib.hid (below_ext HB.out hb3); have hz3 := hb3.size; clear hb3)
    | (refine R.rowStore rfl 89 (.tmp 2) (.tmp 23) rfl KR.out rfl rfl info_note rfl (ones_note _ _ _ _) ?_; intro w4 hk hg; replace HB := Lib.hid (below_at HB.out hg (by omega) KR.out.lt); replace KX := Lib.hid (KX.out.grown hg (by omega)); replace KR := Lib.hid hk; have hz4 := hg.size; clear hk hg))
  exact bodyPost_ret (v := .tuple #[.agg #[.int .u64 0, .int .u64 0, .int .i64 0, .int .u32 0], .int .i64 k]) (ret_row rfl _ _ rfl KR.out rfl rfl) rfl ⟨rfl, HB.out⟩
set_option maxRecDepth 100000 in
set_option maxHeartbeats 1000000 in
theorem rGet_2 (xs : List Int) (HX : Hid (xs.length = 64)) (D : List Int) (HD : Hid (D.length = 44)) (n a c m : Nat) (nl : n < 18446744073709551616) (al : a < 18446744073709551616) (cl : c < 65536) (ml : m < 4294967296)
    (PG : Hid (∀ w : World, Calls Try.prog 60 #[blk xs] w fun e w' => (∃ A k, e = .returned (.tuple #[.int .u64 (n : Int), .slice A 44 k, .int .i64 0]) ∧ Byts w.heap.size w' A k D) ∧ Below w.heap.size w w'))
    (P1 : Hid (∀ (A : Option Addr) (k : Nat), 44 ≤ k → k ≤ 9223372036854775807 → ∀ w : World, ReadsInt w .u8 A 44 D → Calls Try.prog 45 #[.slice A 44 k, .int .i64 0, .int .i64 8] w fun e w' => e = .returned (.tuple #[.int .u64 (a : Int), .int .i64 0]) ∧ Below w.heap.size w w'))
    (P2 : Hid (∀ (A : Option Addr) (k : Nat), 44 ≤ k → k ≤ 9223372036854775807 → ∀ w : World, ReadsInt w .u8 A 44 D → Calls Try.prog 45 #[.slice A 44 k, .int .i64 8, .int .i64 2] w fun e w' => e = .returned (.tuple #[.int .u64 (c : Int), .int .i64 0]) ∧ Below w.heap.size w w'))
    (P3 : Hid (∀ (A : Option Addr) (k : Nat), 44 ≤ k → k ≤ 9223372036854775807 → ∀ w : World, ReadsInt w .u8 A 44 D → Calls Try.prog 45 #[.slice A 44 k, .int .i64 10, .int .i64 4] w fun e w' => e = .returned (.tuple #[.int .u64 (m : Int), .int .i64 0]) ∧ Below w.heap.size w w'))
(HZ : Hid (¬ (∀ j : Nat, 14 ≤ j → j < 44 → rd D j = 0))) (w : World) :
    Calls Try.prog 87 #[blk xs] w fun e w' => e = .returned (.tuple #[nagg 0 0 0 0, .int .i64 5]) ∧ Below w.heap.size w w' := by
  have HB := Lib.hid (Below.refl w.heap.size w)
  have tok0 : True := trivial
  go_enter Try.func87, Try.ntmps87
  go_wp2_with (first
    | (go_skip)
    | (refine blkBox rfl (.tmp 0) rfl rfl HX.out ?_; intro w1 hk hb1 hz1; replace HB := Lib.hid (below_ext HB.out hb1); have KX := Lib.hid hk; clear hk hb1)
    | (have _t := tok0; refine R.rowAlloc rfl 89 rfl _ zero_note ?_; intro w2 hk hb2 hz2; replace KX := Lib.hid (KX.out.below hb2); replace HB := Lib.hid (below_ext HB.out hb2); have KR := Lib.hid hk; have tok1 : True := trivial; clear hk hb2 _t tok0)
    | (refine blkLoad rfl (.tmp 1) rfl KX.out rfl ?_)
    | (go_at_call 60; refine (PG.out _).mono ?_; rintro e w3 ⟨⟨A1, c1, rfl, o1⟩, hb3⟩; have O1 := Lib.hid o1; have c44 : 44 ≤ c1 := (by have h := o1.le; rw [HD.out] at h; exact h); have cm := o1.cap; replace KX := Lib.hid (KX.out.below hb3); replace KR := Lib.hid (KR.out.below hb3); replace HB := Lib.hid (below_ext HB.out hb3); have hz3 := hb3.size; clear hb3)
    | (go_at_call_of 45 (Value.int .i64 0); refine (P1.out _ _ c44 cm _ (by have h := O1.out.reads; rw [HD.out] at h; exact h)).mono ?_; rintro e w4 ⟨rfl, hb4⟩; replace KX := Lib.hid (KX.out.below hb4); replace KR := Lib.hid (KR.out.below hb4); replace O1 := Lib.hid (O1.out.below hb4); replace HB := Lib.hid (below_ext HB.out hb4); have hz4 := hb4.size; clear hb4)
    | (go_at_call_of 45 (Value.int .i64 8); refine (P2.out _ _ c44 cm _ (by have h := O1.out.reads; rw [HD.out] at h; exact h)).mono ?_; rintro e w5 ⟨rfl, hb5⟩; replace KX := Lib.hid (KX.out.below hb5); replace KR := Lib.hid (KR.out.below hb5); replace O1 := Lib.hid (O1.out.below hb5); replace HB := Lib.hid (below_ext HB.out hb5); have hz5 := hb5.size; clear hb5)
    | (go_at_call_of 45 (Value.int .i64 10); refine (P3.out _ _ c44 cm _ (by have h := O1.out.reads; rw [HD.out] at h; exact h)).mono ?_; rintro e w6 ⟨rfl, hb6⟩; replace KX := Lib.hid (KX.out.below hb6); replace KR := Lib.hid (KR.out.below hb6); replace O1 := Lib.hid (O1.out.below hb6); replace HB := Lib.hid (below_ext HB.out hb6); have hz6 := hb6.size; clear hb6)
    | (have _t := tok1; refine R.rowAlloc rfl 89 rfl _ zero_note ?_; intro w7 hk hb7 hz7; replace KX := Lib.hid (KX.out.below hb7); replace KR := Lib.hid (KR.out.below hb7); replace O1 := Lib.hid (O1.out.below hb7); replace HB := Lib.hid (below_ext HB.out hb7); have KN := Lib.hid hk; have tok2 : True := trivial; clear hk hb7 _t tok1)
    | (refine R.rowStore (cs := #[.int .u64 (n : Int), .int .u64 (a : Int), .int .i64 (c : Int), .int .u32 (m : Int)]) rfl 89 (.tmp 13) (.tmp 46) rfl KN.out rfl rfl info_note rfl (ones_note _ _ _ _) ?_; intro w8 hk hg; replace HB := Lib.hid (below_at HB.out hg (by omega) KN.out.lt); replace KX := Lib.hid (KX.out.grown hg (by omega)); replace KR := Lib.hid (KR.out.grown hg (by omega)); replace O1 := Lib.hid (Byts.apart O1.out KN.out hg (by decide)); replace KN := Lib.hid hk; have hz8 := hg.size; clear hk hg))
  have HR : Hid (ReadsInt w8 .u8 A1 44 D) := Lib.hid (by have h := O1.out.reads; rw [HD.out] at h; exact h)
  go_loopw [14] (fun i wr => ∃ q : Nat, 14 ≤ q ∧ q ≤ 44 ∧ i = .int .i64 (q : Int) ∧ Hid (∀ j : Nat, 14 ≤ j → j < q → rd D j = 0) ∧ Hid (Row 89 wr w1.heap.size #[.int .u64 0, .int .u64 0, .int .i64 0, .int .u32 0]) ∧ Hid (Row 89 wr w6.heap.size #[.int .u64 (n : Int), .int .u64 (a : Int), .int .i64 (c : Int), .int .u32 (m : Int)]) ∧ Hid (Below w.heap.size w wr) ∧ Hid (ReadsInt wr .u8 A1 44 D)) (fun i _ => 44 - (intOf i).toNat)
  case atStart => exact ⟨14, by decide, by decide, rfl, Lib.hid (fun j h1 h2 => absurd h2 (by omega)), KR, KN, HB, HR⟩
  case round =>
    clear KR KN HB HR O1 KX
    obtain ⟨q, h14, hq, rfl, HA, KR, KN, HB, HR⟩ := hrel
    have hi0 : (0 : Int) ≤ (q : Int) := by omega
    by_cases hlt : q < 44
    · obtain ⟨ax, rfl, cx⟩ := HR.out.at_ (q : Int) (by omega) (by omega)
      simp only [Int.toNat_natCast] at cx
      by_cases he : rd D q = 0
      · have hb : (rd D q != 0) = false := by simp [he]
        have HE := Lib.hid he
        clear he
        go_wp2
        go_roundw
        case rel =>
          refine ⟨q + 1, by omega, by omega, by go_num, Lib.hid (fun j h1 h2 => ?_), KR, KN, HB, HR⟩
          rcases Nat.lt_or_ge j q with h | h
          · exact HA.out j h1 h
          · obtain rfl : j = q := by omega
            exact HE.out
        case measure => simp [intOf]; omega
      · have hb : (rd D q != 0) = true := by simpa using he
        clear he
        go_wp2_with (first
          | (go_skip)
          | (refine R.rowStore rfl 89 (.tmp 2) (.tmp 58) rfl KR.out rfl rfl info_note rfl (ones_note _ _ _ _) ?_; intro w21 hk hg; replace HB := Lib.hid (below_at HB.out hg (by omega) KR.out.lt); replace KR := Lib.hid hk; have hz21 := hg.size; clear hk hg))
        exact bodyPost_ret (v := .tuple #[.agg #[.int .u64 0, .int .u64 0, .int .i64 0, .int .u32 0], .int .i64 5]) (ret_row rfl _ _ rfl KR.out rfl rfl) rfl ⟨rfl, HB.out⟩
    · obtain rfl : q = 44 := by omega
      exact absurd (fun j h1 h2 => HA.out j h1 h2) HZ.out
set_option maxRecDepth 100000 in
set_option maxHeartbeats 1000000 in
theorem rGet_3 (xs : List Int) (HX : Hid (xs.length = 64)) (D : List Int) (HD : Hid (D.length = 44)) (n a c m : Nat) (nl : n < 18446744073709551616) (al : a < 18446744073709551616) (cl : c < 65536) (ml : m < 4294967296)
    (PG : Hid (∀ w : World, Calls Try.prog 60 #[blk xs] w fun e w' => (∃ A k, e = .returned (.tuple #[.int .u64 (n : Int), .slice A 44 k, .int .i64 0]) ∧ Byts w.heap.size w' A k D) ∧ Below w.heap.size w w'))
    (P1 : Hid (∀ (A : Option Addr) (k : Nat), 44 ≤ k → k ≤ 9223372036854775807 → ∀ w : World, ReadsInt w .u8 A 44 D → Calls Try.prog 45 #[.slice A 44 k, .int .i64 0, .int .i64 8] w fun e w' => e = .returned (.tuple #[.int .u64 (a : Int), .int .i64 0]) ∧ Below w.heap.size w w'))
    (P2 : Hid (∀ (A : Option Addr) (k : Nat), 44 ≤ k → k ≤ 9223372036854775807 → ∀ w : World, ReadsInt w .u8 A 44 D → Calls Try.prog 45 #[.slice A 44 k, .int .i64 8, .int .i64 2] w fun e w' => e = .returned (.tuple #[.int .u64 (c : Int), .int .i64 0]) ∧ Below w.heap.size w w'))
    (P3 : Hid (∀ (A : Option Addr) (k : Nat), 44 ≤ k → k ≤ 9223372036854775807 → ∀ w : World, ReadsInt w .u8 A 44 D → Calls Try.prog 45 #[.slice A 44 k, .int .i64 10, .int .i64 4] w fun e w' => e = .returned (.tuple #[.int .u64 (m : Int), .int .i64 0]) ∧ Below w.heap.size w w'))
    (PM : Hid (∀ w : World, Calls Try.prog 80 #[nagg n a c m] w fun e w' => e = .returned (.bool false) ∧ Below w.heap.size w w'))
(HZ : Hid ((∀ j : Nat, 14 ≤ j → j < 44 → rd D j = 0))) (w : World) :
    Calls Try.prog 87 #[blk xs] w fun e w' => e = .returned (.tuple #[nagg 0 0 0 0, .int .i64 5]) ∧ Below w.heap.size w w' := by
  have HB := Lib.hid (Below.refl w.heap.size w)
  have tok0 : True := trivial
  go_enter Try.func87, Try.ntmps87
  go_wp2_with (first
    | (go_skip)
    | (refine blkBox rfl (.tmp 0) rfl rfl HX.out ?_; intro w1 hk hb1 hz1; replace HB := Lib.hid (below_ext HB.out hb1); have KX := Lib.hid hk; clear hk hb1)
    | (have _t := tok0; refine R.rowAlloc rfl 89 rfl _ zero_note ?_; intro w2 hk hb2 hz2; replace KX := Lib.hid (KX.out.below hb2); replace HB := Lib.hid (below_ext HB.out hb2); have KR := Lib.hid hk; have tok1 : True := trivial; clear hk hb2 _t tok0)
    | (refine blkLoad rfl (.tmp 1) rfl KX.out rfl ?_)
    | (go_at_call 60; refine (PG.out _).mono ?_; rintro e w3 ⟨⟨A1, c1, rfl, o1⟩, hb3⟩; have O1 := Lib.hid o1; have c44 : 44 ≤ c1 := (by have h := o1.le; rw [HD.out] at h; exact h); have cm := o1.cap; replace KX := Lib.hid (KX.out.below hb3); replace KR := Lib.hid (KR.out.below hb3); replace HB := Lib.hid (below_ext HB.out hb3); have hz3 := hb3.size; clear hb3)
    | (go_at_call_of 45 (Value.int .i64 0); refine (P1.out _ _ c44 cm _ (by have h := O1.out.reads; rw [HD.out] at h; exact h)).mono ?_; rintro e w4 ⟨rfl, hb4⟩; replace KX := Lib.hid (KX.out.below hb4); replace KR := Lib.hid (KR.out.below hb4); replace O1 := Lib.hid (O1.out.below hb4); replace HB := Lib.hid (below_ext HB.out hb4); have hz4 := hb4.size; clear hb4)
    | (go_at_call_of 45 (Value.int .i64 8); refine (P2.out _ _ c44 cm _ (by have h := O1.out.reads; rw [HD.out] at h; exact h)).mono ?_; rintro e w5 ⟨rfl, hb5⟩; replace KX := Lib.hid (KX.out.below hb5); replace KR := Lib.hid (KR.out.below hb5); replace O1 := Lib.hid (O1.out.below hb5); replace HB := Lib.hid (below_ext HB.out hb5); have hz5 := hb5.size; clear hb5)
    | (go_at_call_of 45 (Value.int .i64 10); refine (P3.out _ _ c44 cm _ (by have h := O1.out.reads; rw [HD.out] at h; exact h)).mono ?_; rintro e w6 ⟨rfl, hb6⟩; replace KX := Lib.hid (KX.out.below hb6); replace KR := Lib.hid (KR.out.below hb6); replace O1 := Lib.hid (O1.out.below hb6); replace HB := Lib.hid (below_ext HB.out hb6); have hz6 := hb6.size; clear hb6)
    | (have _t := tok1; refine R.rowAlloc rfl 89 rfl _ zero_note ?_; intro w7 hk hb7 hz7; replace KX := Lib.hid (KX.out.below hb7); replace KR := Lib.hid (KR.out.below hb7); replace O1 := Lib.hid (O1.out.below hb7); replace HB := Lib.hid (below_ext HB.out hb7); have KN := Lib.hid hk; have tok2 : True := trivial; clear hk hb7 _t tok1)
    | (refine R.rowStore (cs := #[.int .u64 (n : Int), .int .u64 (a : Int), .int .i64 (c : Int), .int .u32 (m : Int)]) rfl 89 (.tmp 13) (.tmp 46) rfl KN.out rfl rfl info_note rfl (ones_note _ _ _ _) ?_; intro w8 hk hg; replace HB := Lib.hid (below_at HB.out hg (by omega) KN.out.lt); replace KX := Lib.hid (KX.out.grown hg (by omega)); replace KR := Lib.hid (KR.out.grown hg (by omega)); replace O1 := Lib.hid (Byts.apart O1.out KN.out hg (by decide)); replace KN := Lib.hid hk; have hz8 := hg.size; clear hk hg))
  have HR : Hid (ReadsInt w8 .u8 A1 44 D) := Lib.hid (by have h := O1.out.reads; rw [HD.out] at h; exact h)
  go_loopw [14] (fun i wr => ∃ q : Nat, 14 ≤ q ∧ q ≤ 44 ∧ i = .int .i64 (q : Int) ∧ Hid (∀ j : Nat, 14 ≤ j → j < q → rd D j = 0) ∧ Hid (Row 89 wr w1.heap.size #[.int .u64 0, .int .u64 0, .int .i64 0, .int .u32 0]) ∧ Hid (Row 89 wr w6.heap.size #[.int .u64 (n : Int), .int .u64 (a : Int), .int .i64 (c : Int), .int .u32 (m : Int)]) ∧ Hid (Below w.heap.size w wr) ∧ Hid (ReadsInt wr .u8 A1 44 D)) (fun i _ => 44 - (intOf i).toNat)
  case atStart => exact ⟨14, by decide, by decide, rfl, Lib.hid (fun j h1 h2 => absurd h2 (by omega)), KR, KN, HB, HR⟩
  case round =>
    clear KR KN HB HR O1 KX
    obtain ⟨q, h14, hq, rfl, HA, KR, KN, HB, HR⟩ := hrel
    have hi0 : (0 : Int) ≤ (q : Int) := by omega
    by_cases hlt : q < 44
    · obtain ⟨ax, rfl, cx⟩ := HR.out.at_ (q : Int) (by omega) (by omega)
      simp only [Int.toNat_natCast] at cx
      by_cases he : rd D q = 0
      · have hb : (rd D q != 0) = false := by simp [he]
        have HE := Lib.hid he
        clear he
        go_wp2
        go_roundw
        case rel =>
          refine ⟨q + 1, by omega, by omega, by go_num, Lib.hid (fun j h1 h2 => ?_), KR, KN, HB, HR⟩
          rcases Nat.lt_or_ge j q with h | h
          · exact HA.out j h1 h
          · obtain rfl : j = q := by omega
            exact HE.out
        case measure => simp [intOf]; omega
      · exact absurd (HZ.out q h14 hlt) he
    · obtain rfl : q = 44 := by omega
      go_wp2_with (first
        | (go_skip)
        | (refine rowLoad rfl 89 (.tmp 13) rfl KN.out rfl Try.underlying89 rfl info_note ?_)
        | (go_at_call 80; refine (PM.out _).mono ?_; rintro e w21 ⟨rfl, hb21⟩; replace KR := Lib.hid (KR.out.below hb21); replace KN := Lib.hid (KN.out.below hb21); replace HB := Lib.hid (below_ext HB.out hb21); have hz21 := hb21.size; clear hb21)
        | (refine R.rowStore rfl 89 (.tmp 2) (.tmp 62) rfl KR.out rfl rfl info_note rfl (ones_note _ _ _ _) ?_; intro w22 hk hg; replace HB := Lib.hid (below_at HB.out hg (by omega) KR.out.lt); replace KR := Lib.hid hk; have hz22 := hg.size; clear hk hg))
      exact bodyPost_ret (v := .tuple #[.agg #[.int .u64 0, .int .u64 0, .int .i64 0, .int .u32 0], .int .i64 5]) (ret_row rfl _ _ rfl KR.out rfl rfl) rfl ⟨rfl, HB.out⟩
set_option maxRecDepth 100000 in
set_option maxHeartbeats 1000000 in
theorem rGet_4 (xs : List Int) (HX : Hid (xs.length = 64)) (D : List Int) (HD : Hid (D.length = 44)) (n a c m : Nat) (nl : n < 18446744073709551616) (al : a < 18446744073709551616) (cl : c < 65536) (ml : m < 4294967296)
    (PG : Hid (∀ w : World, Calls Try.prog 60 #[blk xs] w fun e w' => (∃ A k, e = .returned (.tuple #[.int .u64 (n : Int), .slice A 44 k, .int .i64 0]) ∧ Byts w.heap.size w' A k D) ∧ Below w.heap.size w w'))
    (P1 : Hid (∀ (A : Option Addr) (k : Nat), 44 ≤ k → k ≤ 9223372036854775807 → ∀ w : World, ReadsInt w .u8 A 44 D → Calls Try.prog 45 #[.slice A 44 k, .int .i64 0, .int .i64 8] w fun e w' => e = .returned (.tuple #[.int .u64 (a : Int), .int .i64 0]) ∧ Below w.heap.size w w'))
    (P2 : Hid (∀ (A : Option Addr) (k : Nat), 44 ≤ k → k ≤ 9223372036854775807 → ∀ w : World, ReadsInt w .u8 A 44 D → Calls Try.prog 45 #[.slice A 44 k, .int .i64 8, .int .i64 2] w fun e w' => e = .returned (.tuple #[.int .u64 (c : Int), .int .i64 0]) ∧ Below w.heap.size w w'))
    (P3 : Hid (∀ (A : Option Addr) (k : Nat), 44 ≤ k → k ≤ 9223372036854775807 → ∀ w : World, ReadsInt w .u8 A 44 D → Calls Try.prog 45 #[.slice A 44 k, .int .i64 10, .int .i64 4] w fun e w' => e = .returned (.tuple #[.int .u64 (m : Int), .int .i64 0]) ∧ Below w.heap.size w w'))
    (PM : Hid (∀ w : World, Calls Try.prog 80 #[nagg n a c m] w fun e w' => e = .returned (.bool true) ∧ Below w.heap.size w w'))
(HZ : Hid ((∀ j : Nat, 14 ≤ j → j < 44 → rd D j = 0))) (w : World) :
    Calls Try.prog 87 #[blk xs] w fun e w' => e = .returned (.tuple #[nagg n a c m, .int .i64 0]) ∧ Below w.heap.size w w' := by
  have HB := Lib.hid (Below.refl w.heap.size w)
  have tok0 : True := trivial
  go_enter Try.func87, Try.ntmps87
  go_wp2_with (first
    | (go_skip)
    | (refine blkBox rfl (.tmp 0) rfl rfl HX.out ?_; intro w1 hk hb1 hz1; replace HB := Lib.hid (below_ext HB.out hb1); have KX := Lib.hid hk; clear hk hb1)
    | (have _t := tok0; refine R.rowAlloc rfl 89 rfl _ zero_note ?_; intro w2 hk hb2 hz2; replace KX := Lib.hid (KX.out.below hb2); replace HB := Lib.hid (below_ext HB.out hb2); have KR := Lib.hid hk; have tok1 : True := trivial; clear hk hb2 _t tok0)
    | (refine blkLoad rfl (.tmp 1) rfl KX.out rfl ?_)
    | (go_at_call 60; refine (PG.out _).mono ?_; rintro e w3 ⟨⟨A1, c1, rfl, o1⟩, hb3⟩; have O1 := Lib.hid o1; have c44 : 44 ≤ c1 := (by have h := o1.le; rw [HD.out] at h; exact h); have cm := o1.cap; replace KX := Lib.hid (KX.out.below hb3); replace KR := Lib.hid (KR.out.below hb3); replace HB := Lib.hid (below_ext HB.out hb3); have hz3 := hb3.size; clear hb3)
    | (go_at_call_of 45 (Value.int .i64 0); refine (P1.out _ _ c44 cm _ (by have h := O1.out.reads; rw [HD.out] at h; exact h)).mono ?_; rintro e w4 ⟨rfl, hb4⟩; replace KX := Lib.hid (KX.out.below hb4); replace KR := Lib.hid (KR.out.below hb4); replace O1 := Lib.hid (O1.out.below hb4); replace HB := Lib.hid (below_ext HB.out hb4); have hz4 := hb4.size; clear hb4)
    | (go_at_call_of 45 (Value.int .i64 8); refine (P2.out _ _ c44 cm _ (by have h := O1.out.reads; rw [HD.out] at h; exact h)).mono ?_; rintro e w5 ⟨rfl, hb5⟩; replace KX := Lib.hid (KX.out.below hb5); replace KR := Lib.hid (KR.out.below hb5); replace O1 := Lib.hid (O1.out.below hb5); replace HB := Lib.hid (below_ext HB.out hb5); have hz5 := hb5.size; clear hb5)
    | (go_at_call_of 45 (Value.int .i64 10); refine (P3.out _ _ c44 cm _ (by have h := O1.out.reads; rw [HD.out] at h; exact h)).mono ?_; rintro e w6 ⟨rfl, hb6⟩; replace KX := Lib.hid (KX.out.below hb6); replace KR := Lib.hid (KR.out.below hb6); replace O1 := Lib.hid (O1.out.below hb6); replace HB := Lib.hid (below_ext HB.out hb6); have hz6 := hb6.size; clear hb6)
    | (have _t := tok1; refine R.rowAlloc rfl 89 rfl _ zero_note ?_; intro w7 hk hb7 hz7; replace KX := Lib.hid (KX.out.below hb7); replace KR := Lib.hid (KR.out.below hb7); replace O1 := Lib.hid (O1.out.below hb7); replace HB := Lib.hid (below_ext HB.out hb7); have KN := Lib.hid hk; have tok2 : True := trivial; clear hk hb7 _t tok1)
    | (refine R.rowStore (cs := #[.int .u64 (n : Int), .int .u64 (a : Int), .int .i64 (c : Int), .int .u32 (m : Int)]) rfl 89 (.tmp 13) (.tmp 46) rfl KN.out rfl rfl info_note rfl (ones_note _ _ _ _) ?_; intro w8 hk hg; replace HB := Lib.hid (below_at HB.out hg (by omega) KN.out.lt); replace KX := Lib.hid (KX.out.grown hg (by omega)); replace KR := Lib.hid (KR.out.grown hg (by omega)); replace O1 := Lib.hid (Byts.apart O1.out KN.out hg (by decide)); replace KN := Lib.hid hk; have hz8 := hg.size; clear hk hg))
  have HR : Hid (ReadsInt w8 .u8 A1 44 D) := Lib.hid (by have h := O1.out.reads; rw [HD.out] at h; exact h)
  go_loopw [14] (fun i wr => ∃ q : Nat, 14 ≤ q ∧ q ≤ 44 ∧ i = .int .i64 (q : Int) ∧ Hid (∀ j : Nat, 14 ≤ j → j < q → rd D j = 0) ∧ Hid (Row 89 wr w1.heap.size #[.int .u64 0, .int .u64 0, .int .i64 0, .int .u32 0]) ∧ Hid (Row 89 wr w6.heap.size #[.int .u64 (n : Int), .int .u64 (a : Int), .int .i64 (c : Int), .int .u32 (m : Int)]) ∧ Hid (Below w.heap.size w wr) ∧ Hid (ReadsInt wr .u8 A1 44 D)) (fun i _ => 44 - (intOf i).toNat)
  case atStart => exact ⟨14, by decide, by decide, rfl, Lib.hid (fun j h1 h2 => absurd h2 (by omega)), KR, KN, HB, HR⟩
  case round =>
    clear KR KN HB HR O1 KX
    obtain ⟨q, h14, hq, rfl, HA, KR, KN, HB, HR⟩ := hrel
    have hi0 : (0 : Int) ≤ (q : Int) := by omega
    by_cases hlt : q < 44
    · obtain ⟨ax, rfl, cx⟩ := HR.out.at_ (q : Int) (by omega) (by omega)
      simp only [Int.toNat_natCast] at cx
      by_cases he : rd D q = 0
      · have hb : (rd D q != 0) = false := by simp [he]
        have HE := Lib.hid he
        clear he
        go_wp2
        go_roundw
        case rel =>
          refine ⟨q + 1, by omega, by omega, by go_num, Lib.hid (fun j h1 h2 => ?_), KR, KN, HB, HR⟩
          rcases Nat.lt_or_ge j q with h | h
          · exact HA.out j h1 h
          · obtain rfl : j = q := by omega
            exact HE.out
        case measure => simp [intOf]; omega
      · exact absurd (HZ.out q h14 hlt) he
    · obtain rfl : q = 44 := by omega
      go_wp2_with (first
        | (go_skip)
        | (refine rowLoad rfl 89 (.tmp 13) rfl KN.out rfl Try.underlying89 rfl info_note ?_)
        | (go_at_call 80; refine (PM.out _).mono ?_; rintro e w21 ⟨rfl, hb21⟩; replace KR := Lib.hid (KR.out.below hb21); replace KN := Lib.hid (KN.out.below hb21); replace HB := Lib.hid (below_ext HB.out hb21); have hz21 := hb21.size; clear hb21)
        | (refine R.rowStore (cs := #[.int .u64 (n : Int), .int .u64 (a : Int), .int .i64 (c : Int), .int .u32 (m : Int)]) rfl 89 (.tmp 2) (.tmp 63) rfl KR.out rfl rfl info_note rfl (ones_note _ _ _ _) ?_; intro w22 hk hg; replace HB := Lib.hid (below_at HB.out hg (by omega) KR.out.lt); replace KR := Lib.hid hk; have hz22 := hg.size; clear hk hg))
      exact bodyPost_ret (v := .tuple #[.agg #[.int .u64 (n : Int), .int .u64 (a : Int), .int .i64 (c : Int), .int .u32 (m : Int)], .int .i64 0]) (ret_row rfl _ _ rfl KR.out rfl rfl) rfl ⟨rfl, HB.out⟩
end Go.Proofs.Ytdchcggllcgokaa.T

namespace Go.Proofs.Ytdchcggllcgokaa.T
open Go.RowKit Go.Proofs.Ytdchcggllcgokaa.L Go.Proofs.Ytdchcggllcgokaa.U Go.Proofs.Ytdchcggllcgokaa.R Go.Proofs.Ytdchcggllcgokaa.E Go.Proofs.YtdchcggllcgokaaW.PrintWords
set_option linter.unusedVariables false
set_option linter.unusedSimpArgs false

theorem tail_zero {D : List Int} (hl : D.length = 44) : D.drop 14 = Z 30 ↔ ∀ j : Nat, 14 ≤ j → j < 44 → rd D j = 0 := by
  have hj : ∀ j : Nat, (h : j < D.length) → rd D j = D[j] := fun j h => by
    rw [rd, Int.toNat_natCast, List.getD_eq_getElem?_getD, List.getElem?_eq_getElem h, Option.getD_some]
  constructor
  · intro h j h1 h2
    have h3 : (D.drop 14)[j - 14]? = (Z 30)[j - 14]? := by rw [h]
    rw [List.getElem?_drop, Z, List.getElem?_replicate, if_pos (by omega), show 14 + (j - 14) = j by omega, List.getElem?_eq_getElem (by omega)] at h3
    rw [hj j (by omega)]
    exact Option.some.inj h3
  · intro h
    apply List.ext_getElem
    · rw [List.length_drop, Z, List.length_replicate]; omega
    · intro i h1 h2
      rw [List.length_drop] at h1
      rw [List.getElem_drop, ← hj (14 + i) (by omega), h (14 + i) (by omega) (by omega)]
      simp only [Z, List.getElem_replicate]
theorem rgot_44 {xs D : List Int} {n : Nat} (hl : xs.length = 64) (hw : Wf8 xs) (hg : gots xs = (n, D, 0)) (hDl : D.length = 44) (w : World) :
    Calls Try.prog 60 #[blk xs] w fun e w' => (∃ A k, e = .returned (.tuple #[.int .u64 (n : Int), .slice A 44 k, .int .i64 0]) ∧ Byts w.heap.size w' A k D) ∧ Below w.heap.size w w' := by
  refine (rGet_seal xs hl hw w).mono ?_
  rintro e w' ⟨⟨A, k, he, ho⟩, hb⟩
  rw [hg] at he ho
  rw [← hDl]
  exact ⟨⟨A, k, he, ho⟩, hb⟩
theorem rgot_A {D : List Int} (hw : Wf8 D) (hl : D.length = 44) : AtD 45 0 8 D (fA D) := fun A k h1 h2 w hr => rgetD hw hl 0 8 (by decide) (by decide) (by decide) (fA D) rfl A k h1 h2 w hr
theorem rgot_C {D : List Int} (hw : Wf8 D) (hl : D.length = 44) : AtD 45 8 2 D (fC D) := fun A k h1 h2 w hr => rgetD hw hl 8 2 (by decide) (by decide) (by decide) (fC D) rfl A k h1 h2 w hr
theorem rgot_M {D : List Int} (hw : Wf8 D) (hl : D.length = 44) : AtD 45 10 4 D (fM D) := fun A k h1 h2 w hr => rgetD hw hl 10 4 (by decide) (by decide) (by decide) (fM D) rfl A k h1 h2 w hr
def rGetQ (xs : List Int) (w : World) (r : (Nat × Nat × Nat × Nat) × Int) : Prop := Calls Try.prog 87 #[blk xs] w fun e w' => e = .returned (.tuple #[naggQ r.1, .int .i64 r.2]) ∧ Below w.heap.size w w'
theorem rGet_q1 (xs : List Int) (hl : xs.length = 64) (n : Nat) (k : Int) (hk : (k != 0) = true) (PG : rGetN xs n k) (w : World) : rGetQ xs w ((0, 0, 0, 0), k) :=
  rGet_1 xs (Lib.hid hl) n k hk (Lib.hid PG) w
section
variable (xs D : List Int) (n a c m : Nat) (hl : xs.length = 64) (hDl : D.length = 44) (nl : n < 18446744073709551616) (al : a < 18446744073709551616) (cl : c < 65536) (ml : m < 4294967296)
  (PG : ∀ w : World, Calls Try.prog 60 #[blk xs] w fun e w' => (∃ A k, e = .returned (.tuple #[.int .u64 (n : Int), .slice A 44 k, .int .i64 0]) ∧ Byts w.heap.size w' A k D) ∧ Below w.heap.size w w')
  (P1 : AtD 45 0 8 D a) (P2 : AtD 45 8 2 D c) (P3 : AtD 45 10 4 D m) (w : World)
include hl hDl nl al cl ml PG P1 P2 P3
theorem rGet_q2 (hz : ¬ ∀ j : Nat, 14 ≤ j → j < 44 → rd D j = 0) : rGetQ xs w ((0, 0, 0, 0), 5) :=
  rGet_2 xs (Lib.hid hl) D (Lib.hid hDl) n a c m nl al cl ml (Lib.hid PG) (Lib.hid P1) (Lib.hid P2) (Lib.hid P3) (Lib.hid hz) w
theorem rGet_q3 (hp : ∀ w : World, Calls Try.prog 80 #[nagg n a c m] w fun e w' => e = .returned (.bool (mayN n a c)) ∧ Below w.heap.size w w')
    (hm : mayN n a c = false) (hz : ∀ j : Nat, 14 ≤ j → j < 44 → rd D j = 0) : rGetQ xs w ((0, 0, 0, 0), 5) := by
  rw [hm] at hp
  exact rGet_3 xs (Lib.hid hl) D (Lib.hid hDl) n a c m nl al cl ml (Lib.hid PG) (Lib.hid P1) (Lib.hid P2) (Lib.hid P3) (Lib.hid hp) (Lib.hid hz) w
theorem rGet_q4 (hp : ∀ w : World, Calls Try.prog 80 #[nagg n a c m] w fun e w' => e = .returned (.bool (mayN n a c)) ∧ Below w.heap.size w w')
    (hm : mayN n a c = true) (hz : ∀ j : Nat, 14 ≤ j → j < 44 → rd D j = 0) : rGetQ xs w ((n, a, c, m), 0) := by
  rw [hm] at hp
  exact rGet_4 xs (Lib.hid hl) D (Lib.hid hDl) n a c m nl al cl ml (Lib.hid PG) (Lib.hid P1) (Lib.hid P2) (Lib.hid P3) (Lib.hid hp) (Lib.hid hz) w
end
theorem rGet_note (xs : List Int) (hl : xs.length = 64) (hw : Wf8 xs) (w : World) : rGetQ xs w (gotN xs) := by
  by_cases h0 : (gots xs).2.2 = 0
  · have hn := gots_lt hw
    obtain ⟨⟨n, D, k⟩, hg⟩ : ∃ q, gots xs = q := ⟨_, rfl⟩
    rw [hg] at h0 hn
    obtain rfl : k = 0 := h0
    obtain ⟨n0, hDi, hs⟩ := reseal hl hw hg
    have hDl : D.length = 44 := by rw [hDi]; exact inner_length hl
    have hDw : Wf8 D := by rw [hDi]; exact inner_wf hw
    have hsn := tail_zero hDl
    have PG := rgot_44 hl hw hg hDl
    rw [gotN_ok hg]
    have al := fA_lt hDw
    have cl := fC_lt hDw
    have ml := fM_lt hDw
    have P1 := rgot_A hDw hDl
    have P2 := rgot_C hDw hDl
    have P3 := rgot_M hDw hDl
    clear hDi hs hDw hg n0
    generalize fA D = a at *
    generalize fC D = c at *
    generalize fM D = m at *
    have hp := fun w => rMay_any n a (c : Int) m hn al ⟨by omega, by omega⟩ ml w
    by_cases hz : D.drop 14 = Z 30
    · by_cases hm : mayN n a c = true
      · rw [if_pos ⟨hm, hz⟩]
        exact rGet_q4 xs D n a c m hl hDl hn al cl ml PG P1 P2 P3 w hp hm (hsn.1 hz)
      · rw [if_neg (fun h => hm h.1)]
        exact rGet_q3 xs D n a c m hl hDl hn al cl ml PG P1 P2 P3 w hp (by simpa using hm) (hsn.1 hz)
    · rw [if_neg (fun h => hz h.2)]
      exact rGet_q2 xs D n a c m hl hDl hn al cl ml PG P1 P2 P3 w (fun h => hz (hsn.2 h))
  · rw [gotN_err h0]
    have hk := bne_iff_ne.2 h0
    have PG := rget_n hl hw
    generalize (gots xs).2.2 = k at *
    generalize (gots xs).1 = n at *
    exact rGet_q1 xs hl n k hk PG w
end Go.Proofs.Ytdchcggllcgokaa.T
