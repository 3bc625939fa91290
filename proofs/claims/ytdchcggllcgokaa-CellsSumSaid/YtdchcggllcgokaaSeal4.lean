/-
  seal.Get, ashlarref07.Get: the walks.
-/
import Derived.Test.YtdchcggllcgokaaSeal3
namespace Go.Proofs.Ytdchcggllcgokaa.E
open Go.RowKit Go.Proofs.Ytdchcggllcgokaa.L Go.Proofs.Ytdchcggllcgokaa.U Go.Proofs.Ytdchcggllcgokaa.R Go.Proofs.YtdchcggllcgokaaW.PrintWords
set_option linter.unusedVariables false
set_option linter.unusedSimpArgs false

def first (xs : List Int) : Nat := vle (bat xs 0) 8
def last (xs : List Int) : Nat := vle (bat xs 56) 8
def told (xs : List Int) : Nat := vle (bat xs 52) 4
def inner (xs : List Int) : List Int := (xs.drop 8).take 44
def gots (xs : List Int) : Nat × List Int × Int :=
  if first xs = 0 ∨ first xs ≠ last xs then (0, [], 5) else if crcs (xs.take 52) ≠ told xs then (0, [], 6) else (first xs, inner xs, 0)
theorem wf_take {xs : List Int} (h : Wf8 xs) (n : Nat) : Wf8 (xs.take n) := fun x hx => h x (List.mem_of_mem_take hx)
theorem wf_drop {xs : List Int} (h : Wf8 xs) (n : Nat) : Wf8 (xs.drop n) := fun x hx => h x (List.mem_of_mem_drop hx)
theorem inner_wf {xs : List Int} (h : Wf8 xs) : Wf8 (inner xs) := wf_take (wf_drop h 8) 44
theorem inner_length {xs : List Int} (h : xs.length = 64) : (inner xs).length = 44 := by simp [inner, h]
theorem bat_lt {xs : List Int} (h : Wf8 xs) (a i : Nat) : bat xs a i < 256 := by have := rd_byte h (a + i); rw [bat]; omega
theorem first_lt {xs : List Int} (h : Wf8 xs) : first xs < 18446744073709551616 := vle_lt (bat xs 0) (bat_lt h 0) 8
theorem last_lt {xs : List Int} (h : Wf8 xs) : last xs < 18446744073709551616 := vle_lt (bat xs 56) (bat_lt h 56) 8
theorem told_lt {xs : List Int} (h : Wf8 xs) : told xs < 4294967296 := vle_lt (bat xs 52) (bat_lt h 52) 4
theorem Room.none_ (b : Nat) (W : World) : Room b W none 0 := ⟨[], (fun x hx => by cases hx), rfl, own_nil W b _ 1⟩
theorem getN {xs : List Int} (hw : Wf8 xs) (hl : xs.length = 64) (a s : Nat) (h1 : 1 ≤ s) (h2 : s ≤ 8) (h3 : a + s ≤ 64) (v : Nat) (hv : v = vle (bat xs a) s) (A : Option Addr) (w : World) (hr : ReadsInt w .u8 A 64 xs) :
    Calls Try.prog 44 #[.slice A 64 64, .int .i64 (a : Int), .int .i64 (s : Int)] w fun e w' => e = .returned (.tuple #[.int .u64 (v : Int), .int .i64 0]) ∧ Below w.heap.size w w' := by
  have h := Get_b A 64 xs hw a s (by omega) (by omega) (by omega) (by decide) w (by rw [hl]; exact hr)
  rw [gets_ok h1 h2 (by omega), hl, ← hv] at h
  exact h
theorem rgetN {xs : List Int} (hw : Wf8 xs) (hl : xs.length = 64) (a s : Nat) (h1 : 1 ≤ s) (h2 : s ≤ 8) (h3 : a + s ≤ 64) (v : Nat) (hv : v = vle (bat xs a) s) (A : Option Addr) (c : Nat) (hc : 64 ≤ c) (hc2 : c ≤ 9223372036854775807) (w : World) (hr : ReadsInt w .u8 A 64 xs) :
    Calls Try.prog 45 #[.slice A 64 c, .int .i64 (a : Int), .int .i64 (s : Int)] w fun e w' => e = .returned (.tuple #[.int .u64 (v : Int), .int .i64 0]) ∧ Below w.heap.size w w' := by
  have h := rGet_b A c xs hw a s (by omega) (by omega) (by omega) hc2 w (by rw [hl]; exact hr)
  rw [gets_ok h1 h2 (by omega), hl, ← hv] at h
  exact h
/-- what a call of Get hands back -/
def GotP (b : Nat) (xs : List Int) (e : Ending) (W : World) : Prop := ∃ A c, e = .returned (.tuple #[.int .u64 ((gots xs).1 : Int), .slice A (gots xs).2.1.length c, .int .i64 (gots xs).2.2]) ∧ Byts b W A c (gots xs).2.1
def GotF (b : Nat) (xs : List Int) (e : Ending) (W : World) : Prop := ∃ A c, e = .returned (.tuple #[.int .u64 ((gots xs).1 : Int), .slice A (gots xs).2.1.length c, .int .i64 (gots xs).2.2]) ∧ Byts b W A c (gots xs).2.1 ∧ Room b W A c
theorem got_err {b : Nat} {xs : List Int} {k : Int} {W : World} (h : gots xs = (0, [], k)) : GotF b xs (.returned (.tuple #[.int .u64 0, .slice none 0 0, .int .i64 k])) W :=
  ⟨none, 0, by rw [h]; rfl, by rw [h]; exact Byts.none_ _ _, Room.none_ _ _⟩
theorem got_errP {b : Nat} {xs : List Int} {k : Int} {W : World} (h : gots xs = (0, [], k)) : GotP b xs (.returned (.tuple #[.int .u64 0, .slice none 0 0, .int .i64 k])) W :=
  ⟨none, 0, by rw [h]; rfl, by rw [h]; exact Byts.none_ _ _⟩
set_option maxRecDepth 100000 in
set_option maxHeartbeats 2000000 in
theorem Get_seal (xs : List Int) (hl : xs.length = 64) (hw : Wf8 xs) (w : World) :
    Calls Try.prog 59 #[blk xs] w fun e w' => GotF w.heap.size xs e w' ∧ Below w.heap.size w w' := by
  have HB := Lib.hid (Below.refl w.heap.size w)
  have HX := Lib.hid hl
  obtain ⟨f, hf⟩ : ∃ f, f = first xs := ⟨_, rfl⟩
  obtain ⟨l, hl2⟩ : ∃ l, l = last xs := ⟨_, rfl⟩
  obtain ⟨m, hm⟩ : ∃ m, m = told xs := ⟨_, rfl⟩
  obtain ⟨c, hc⟩ : ∃ c, c = crcs (xs.take 52) := ⟨_, rfl⟩
  have fl : f < 18446744073709551616 := by rw [hf]; exact first_lt hw
  have ll : l < 18446744073709551616 := by rw [hl2]; exact last_lt hw
  have ml : m < 4294967296 := by rw [hm]; exact told_lt hw
  have cl : c < 4294967296 := by rw [hc]; exact crcs_lt _
  have P1 := Lib.hid (fun A w hr => getN hw hl 0 8 (by decide) (by decide) (by decide) f hf A w hr)
  have P2 := Lib.hid (fun A w hr => getN hw hl 56 8 (by decide) (by decide) (by decide) l hl2 A w hr)
  have P3 := Lib.hid (fun A w hr => getN hw hl 52 4 (by decide) (by decide) (by decide) m hm A w hr)
  have P4 : Hid (∀ (A : Option Addr) (cap : Nat) (w : World), ReadsInt w .u8 A 52 (xs.take 52) → Calls Try.prog 123 #[.slice A 52 cap] w fun e w' => e = .returned (.int .u32 (c : Int)) ∧ Below w.heap.size w w') := Lib.hid fun A cap w hr => by
    have h52 : (xs.take 52).length = 52 := by simp [hl]
    have h := Of_b A cap (xs.take 52) (wf_take hw 52) w (by rw [h52]; exact hr)
    rw [h52, ← hc] at h
    exact h
  have P5 : Hid (∀ (ad : Addr) (cap : Nat) (w : World), ReadsInt w .u8 (some ad) 44 (inner xs) → Calls Try.prog 125 #[.slice (some ad) 44 cap] w fun e w' => (∃ A c, e = .returned (.slice A 44 c) ∧ Byts w.heap.size w' A c (inner xs) ∧ Room w.heap.size w' A c) ∧ Below w.heap.size w w') := Lib.hid fun ad cap w hr => by
    have h := Clone_any ad cap (inner xs) (inner_wf hw) (by rw [inner_length hl]; decide) (by rw [inner_length hl]; decide) w (by rw [inner_length hl]; exact hr)
    rw [inner_length hl] at h
    exact h
  rcases (by omega : f = 0 ∨ (f ≠ 0 ∧ f ≠ l) ∨ (f ≠ 0 ∧ f = l ∧ c ≠ m) ∨ (f ≠ 0 ∧ f = l ∧ c = m)) with h | ⟨h, h2⟩ | ⟨h, h2, h3⟩ | ⟨h, h2, h3⟩
  · have HG := Lib.hid (show gots xs = (0, [], 5) from if_pos (.inl (by rw [← hf]; exact h)))
    have e1 : ((f : Int) == 0) = true := by simp [h]
    clear hf hl2 hm hc hw hl h
    go_enter Try.func59, Try.ntmps59
    go_wp2_with (first
      | (refine blkBox rfl (.tmp 0) rfl rfl HX.out ?_; intro w1 hk1 hb1 hz1; have K := Lib.hid hk1; replace HB := Lib.hid (below_ext HB.out hb1); clear hk1 hb1)
      | (go_at_call_of 44 (Value.int .i64 0); refine (P1.out _ _ (by have h := K.out.all; rw [HX.out] at h; exact h)).mono ?_; rintro e w2 ⟨rfl, hb⟩; replace K := Lib.hid (K.out.below hb); replace HB := Lib.hid (below_ext HB.out hb); clear hb)
      | (go_at_call_of 44 (Value.int .i64 56); refine (P2.out _ _ (by have h := K.out.all; rw [HX.out] at h; exact h)).mono ?_; rintro e w3 ⟨rfl, hb⟩; replace K := Lib.hid (K.out.below hb); replace HB := Lib.hid (below_ext HB.out hb); clear hb))
    go_ret3
    exact ⟨got_err HG.out, HB.out⟩
  · have HG := Lib.hid (show gots xs = (0, [], 5) from if_pos (.inr (by rw [← hf, ← hl2]; exact h2)))
    have e1 : ((f : Int) == 0) = false := by simp; omega
    have e2 : ((f : Int) != (l : Int)) = true := by simp; omega
    clear hf hl2 hm hc hw hl h h2
    go_enter Try.func59, Try.ntmps59
    go_wp2_with (first
      | (refine blkBox rfl (.tmp 0) rfl rfl HX.out ?_; intro w1 hk1 hb1 hz1; have K := Lib.hid hk1; replace HB := Lib.hid (below_ext HB.out hb1); clear hk1 hb1)
      | (go_at_call_of 44 (Value.int .i64 0); refine (P1.out _ _ (by have h := K.out.all; rw [HX.out] at h; exact h)).mono ?_; rintro e w2 ⟨rfl, hb⟩; replace K := Lib.hid (K.out.below hb); replace HB := Lib.hid (below_ext HB.out hb); clear hb)
      | (go_at_call_of 44 (Value.int .i64 56); refine (P2.out _ _ (by have h := K.out.all; rw [HX.out] at h; exact h)).mono ?_; rintro e w3 ⟨rfl, hb⟩; replace K := Lib.hid (K.out.below hb); replace HB := Lib.hid (below_ext HB.out hb); clear hb))
    go_ret3
    exact ⟨got_err HG.out, HB.out⟩
  · have HG := Lib.hid (show gots xs = (0, [], 6) by rw [gots, if_neg (by rw [← hf, ← hl2]; omega), if_pos (by rw [← hc, ← hm]; exact h3)])
    have e1 : ((f : Int) == 0) = false := by simp; omega
    have e2 : ((f : Int) != (l : Int)) = false := by simp; omega
    have e3 : ((c : Int) != (m : Int)) = true := by simp; omega
    clear hf hl2 hm hc hw hl h h2 h3
    go_enter Try.func59, Try.ntmps59
    go_wp2_with (first
      | (refine blkBox rfl (.tmp 0) rfl rfl HX.out ?_; intro w1 hk1 hb1 hz1; have K := Lib.hid hk1; replace HB := Lib.hid (below_ext HB.out hb1); clear hk1 hb1)
      | (go_at_call_of 44 (Value.int .i64 0); refine (P1.out _ _ (by have h := K.out.all; rw [HX.out] at h; exact h)).mono ?_; rintro e w2 ⟨rfl, hb⟩; replace K := Lib.hid (K.out.below hb); replace HB := Lib.hid (below_ext HB.out hb); clear hb)
      | (go_at_call_of 44 (Value.int .i64 56); refine (P2.out _ _ (by have h := K.out.all; rw [HX.out] at h; exact h)).mono ?_; rintro e w3 ⟨rfl, hb⟩; replace K := Lib.hid (K.out.below hb); replace HB := Lib.hid (below_ext HB.out hb); clear hb)
      | (go_at_call_of 44 (Value.int .i64 52); refine (P3.out _ _ (by have h := K.out.all; rw [HX.out] at h; exact h)).mono ?_; rintro e w4 ⟨rfl, hb⟩; replace K := Lib.hid (K.out.below hb); replace HB := Lib.hid (below_ext HB.out hb); clear hb)
      | (go_at_call 123; refine (P4.out _ _ _ (by have h := K.out.reads 0 52 (by decide); rw [List.drop_zero] at h; exact h)).mono ?_; rintro e w5 ⟨rfl, hb⟩; replace K := Lib.hid (K.out.below hb); replace HB := Lib.hid (below_ext HB.out hb); clear hb))
    go_ret3
    exact ⟨got_err HG.out, HB.out⟩
  · have HG := Lib.hid (show gots xs = (f, inner xs, 0) by rw [gots, if_neg (by rw [← hf, ← hl2]; omega), if_neg (by rw [← hc, ← hm]; omega), hf])
    have HI := Lib.hid (inner_length hl)
    have e1 : ((f : Int) == 0) = false := by simp; omega
    have e2 : ((f : Int) != (l : Int)) = false := by simp; omega
    have e3 : ((c : Int) != (m : Int)) = false := by simp; omega
    clear hf hl2 hm hc hw hl h h2 h3
    go_enter Try.func59, Try.ntmps59
    go_wp2_with (first
      | (refine blkBox rfl (.tmp 0) rfl rfl HX.out ?_; intro w1 hk1 hb1 hz1; have K := Lib.hid hk1; replace HB := Lib.hid (below_ext HB.out hb1); clear hk1 hb1)
      | (go_at_call_of 44 (Value.int .i64 0); refine (P1.out _ _ (by have h := K.out.all; rw [HX.out] at h; exact h)).mono ?_; rintro e w2 ⟨rfl, hb⟩; replace K := Lib.hid (K.out.below hb); replace HB := Lib.hid (below_ext HB.out hb); clear hb)
      | (go_at_call_of 44 (Value.int .i64 56); refine (P2.out _ _ (by have h := K.out.all; rw [HX.out] at h; exact h)).mono ?_; rintro e w3 ⟨rfl, hb⟩; replace K := Lib.hid (K.out.below hb); replace HB := Lib.hid (below_ext HB.out hb); clear hb)
      | (go_at_call_of 44 (Value.int .i64 52); refine (P3.out _ _ (by have h := K.out.all; rw [HX.out] at h; exact h)).mono ?_; rintro e w4 ⟨rfl, hb⟩; replace K := Lib.hid (K.out.below hb); replace HB := Lib.hid (below_ext HB.out hb); clear hb)
      | (go_at_call 123; refine (P4.out _ _ _ (by have h := K.out.reads 0 52 (by decide); rw [List.drop_zero] at h; exact h)).mono ?_; rintro e w5 ⟨rfl, hb⟩; replace K := Lib.hid (K.out.below hb); replace HB := Lib.hid (below_ext HB.out hb); clear hb)
      | (go_at_call 125; refine (P5.out _ _ _ (K.out.reads 8 44 (by decide))).mono ?_; rintro e w6 ⟨⟨A6, c6, rfl, o6, r6⟩, hb⟩; have O6 := Lib.hid (own_lower o6 HB.out.size); have R6 := Lib.hid (show Room w.heap.size w6 A6 c6 from by obtain ⟨zs, h1, h2, h3⟩ := r6; exact ⟨zs, h1, h2, own_lower h3 HB.out.size⟩); clear o6 r6; replace K := Lib.hid (K.out.below hb); replace HB := Lib.hid (below_ext HB.out hb); clear hb))
    go_ret3
    exact ⟨⟨A6, c6, by rw [HG.out]; show _ = Ending.returned (.tuple #[.int .u64 (f : Int), .slice A6 (inner xs).length c6, .int .i64 0]); rw [HI.out]; rfl, by rw [HG.out]; exact O6.out, R6.out⟩, HB.out⟩
theorem sub_reads {W : World} {A : Option Addr} {xs : List Int} {c : Nat} (hl : xs.length = 64) (hc : 64 ≤ c) (h : ReadsInt W .u8 A 64 xs) : ReadsInt W .u8 (if c = 8 then A else A.map (·.add 8)) 44 (inner xs) := by
  have h2 := (h.drop_ 8 (by decide) hc).take_ 44 (by decide)
  exact h2
set_option maxRecDepth 100000 in
set_option maxHeartbeats 2000000 in
theorem rGet_seal (xs : List Int) (hl : xs.length = 64) (hw : Wf8 xs) (w : World) :
    Calls Try.prog 60 #[blk xs] w fun e w' => GotP w.heap.size xs e w' ∧ Below w.heap.size w w' := by
  have HB := Lib.hid (Below.refl w.heap.size w)
  have HX := Lib.hid hl
  obtain ⟨f, hf⟩ : ∃ f, f = first xs := ⟨_, rfl⟩
  obtain ⟨l, hl2⟩ : ∃ l, l = last xs := ⟨_, rfl⟩
  obtain ⟨m, hm⟩ : ∃ m, m = told xs := ⟨_, rfl⟩
  obtain ⟨c, hc⟩ : ∃ c, c = crcs (xs.take 52) := ⟨_, rfl⟩
  have fl : f < 18446744073709551616 := by rw [hf]; exact first_lt hw
  have ll : l < 18446744073709551616 := by rw [hl2]; exact last_lt hw
  have ml : m < 4294967296 := by rw [hm]; exact told_lt hw
  have cl : c < 4294967296 := by rw [hc]; exact crcs_lt _
  have P0 : Hid (∀ (A : Option Addr) (cap : Nat) (w : World), ReadsInt w .u8 A 64 xs → Calls Try.prog 41 #[.slice A 64 cap] w fun e w' => (∃ A c, e = .returned (.slice A 64 c) ∧ Byts w.heap.size w' A c xs) ∧ Below w.heap.size w w') := Lib.hid fun A cap w hr => by
    have h := copy_b A cap xs w (by rw [hl]; exact hr) (by omega)
    rw [hl] at h
    exact h
  have P1 := Lib.hid (fun A c hc hc2 w hr => rgetN hw hl 0 8 (by decide) (by decide) (by decide) f hf A c hc hc2 w hr)
  have P2 := Lib.hid (fun A c hc hc2 w hr => rgetN hw hl 56 8 (by decide) (by decide) (by decide) l hl2 A c hc hc2 w hr)
  have P3 := Lib.hid (fun A c hc hc2 w hr => rgetN hw hl 52 4 (by decide) (by decide) (by decide) m hm A c hc hc2 w hr)
  have P4 : Hid (∀ (A : Option Addr) (cap : Nat) (w : World), ReadsInt w .u8 A 52 (xs.take 52) → Calls Try.prog 124 #[.slice A 52 cap] w fun e w' => e = .returned (.int .u32 (c : Int)) ∧ Below w.heap.size w w') := Lib.hid fun A cap w hr => by
    have h52 : (xs.take 52).length = 52 := by simp [hl]
    have h := rOf_b A cap (xs.take 52) (wf_take hw 52) w (by rw [h52]; exact hr)
    rw [h52, ← hc] at h
    exact h
  have P5 : Hid (∀ (A : Option Addr) (cap : Nat) (w : World), ReadsInt w .u8 A 44 (inner xs) → Calls Try.prog 41 #[.slice A 44 cap] w fun e w' => (∃ A c, e = .returned (.slice A 44 c) ∧ Byts w.heap.size w' A c (inner xs)) ∧ Below w.heap.size w w') := Lib.hid fun A cap w hr => by
    have h := copy_b A cap (inner xs) w (by rw [inner_length hl]; exact hr) (by rw [inner_length hl]; decide)
    rw [inner_length hl] at h
    exact h
  have HS5 : Hid (∀ (W : World) (A : Option Addr), ReadsInt W .u8 A 64 xs → ReadsInt W .u8 (A.map (·.add 8)) 44 (inner xs)) := Lib.hid fun W A h => by
    have h2 := sub_reads hl (by decide : 64 ≤ 65) h
    exact h2
  rcases (by omega : f = 0 ∨ (f ≠ 0 ∧ f ≠ l) ∨ (f ≠ 0 ∧ f = l ∧ c ≠ m) ∨ (f ≠ 0 ∧ f = l ∧ c = m)) with h | ⟨h, h2⟩ | ⟨h, h2, h3⟩ | ⟨h, h2, h3⟩
  · have HG := Lib.hid (show gots xs = (0, [], 5) from if_pos (.inl (by rw [← hf]; exact h)))
    have e1 : ((f : Int) == 0) = true := by simp [h]
    clear hf hl2 hm hc hw hl h
    go_enter Try.func60, Try.ntmps60
    go_wp2_with (first
      | (refine blkBox rfl (.tmp 0) rfl rfl HX.out ?_; intro w1 hk1 hb1 hz1; have K := Lib.hid hk1; replace HB := Lib.hid (below_ext HB.out hb1); clear hk1 hb1)
      | (go_at_call_of 41 (Value.slice (some ⟨w.heap.size, 0, none⟩) 64 64); refine (P0.out _ _ _ (by have h := K.out.all; rw [HX.out] at h; exact h)).mono ?_; rintro e w2 ⟨⟨A1, c1, rfl, o1⟩, hb⟩; have O1 := Lib.hid o1; have c64 : 64 ≤ c1 := (by have h := o1.le; rw [HX.out] at h; exact h); have cm := o1.cap; clear o1; replace HB := Lib.hid (below_ext HB.out hb); clear hb)
      | (go_at_call_of 45 (Value.int .i64 0); refine (P1.out _ _ c64 cm _ (show ReadsInt _ .u8 A1 64 xs from by have h := O1.out.reads; rw [HX.out] at h; exact h)).mono ?_; rintro e w3 ⟨rfl, hb⟩; replace O1 := Lib.hid (O1.out.below hb); replace HB := Lib.hid (below_ext HB.out hb); clear hb)
      | (go_at_call_of 45 (Value.int .i64 56); refine (P2.out _ _ c64 cm _ (show ReadsInt _ .u8 A1 64 xs from by have h := O1.out.reads; rw [HX.out] at h; exact h)).mono ?_; rintro e w4 ⟨rfl, hb⟩; replace O1 := Lib.hid (O1.out.below hb); replace HB := Lib.hid (below_ext HB.out hb); clear hb))
    go_ret3
    exact ⟨got_errP HG.out, HB.out⟩
  · have HG := Lib.hid (show gots xs = (0, [], 5) from if_pos (.inr (by rw [← hf, ← hl2]; exact h2)))
    have e1 : ((f : Int) == 0) = false := by simp; omega
    have e2 : ((f : Int) != (l : Int)) = true := by simp; omega
    clear hf hl2 hm hc hw hl h h2
    go_enter Try.func60, Try.ntmps60
    go_wp2_with (first
      | (refine blkBox rfl (.tmp 0) rfl rfl HX.out ?_; intro w1 hk1 hb1 hz1; have K := Lib.hid hk1; replace HB := Lib.hid (below_ext HB.out hb1); clear hk1 hb1)
      | (go_at_call_of 41 (Value.slice (some ⟨w.heap.size, 0, none⟩) 64 64); refine (P0.out _ _ _ (by have h := K.out.all; rw [HX.out] at h; exact h)).mono ?_; rintro e w2 ⟨⟨A1, c1, rfl, o1⟩, hb⟩; have O1 := Lib.hid o1; have c64 : 64 ≤ c1 := (by have h := o1.le; rw [HX.out] at h; exact h); have cm := o1.cap; clear o1; replace HB := Lib.hid (below_ext HB.out hb); clear hb)
      | (go_at_call_of 45 (Value.int .i64 0); refine (P1.out _ _ c64 cm _ (show ReadsInt _ .u8 A1 64 xs from by have h := O1.out.reads; rw [HX.out] at h; exact h)).mono ?_; rintro e w3 ⟨rfl, hb⟩; replace O1 := Lib.hid (O1.out.below hb); replace HB := Lib.hid (below_ext HB.out hb); clear hb)
      | (go_at_call_of 45 (Value.int .i64 56); refine (P2.out _ _ c64 cm _ (show ReadsInt _ .u8 A1 64 xs from by have h := O1.out.reads; rw [HX.out] at h; exact h)).mono ?_; rintro e w4 ⟨rfl, hb⟩; replace O1 := Lib.hid (O1.out.below hb); replace HB := Lib.hid (below_ext HB.out hb); clear hb))
    go_ret3
    exact ⟨got_errP HG.out, HB.out⟩
  · have HG := Lib.hid (show gots xs = (0, [], 6) by rw [gots, if_neg (by rw [← hf, ← hl2]; omega), if_pos (by rw [← hc, ← hm]; exact h3)])
    have e1 : ((f : Int) == 0) = false := by simp; omega
    have e2 : ((f : Int) != (l : Int)) = false := by simp; omega
    have e3 : ((c : Int) != (m : Int)) = true := by simp; omega
    clear hf hl2 hm hc hw hl h h2 h3
    go_enter Try.func60, Try.ntmps60
    go_wp2_with (first
      | (refine blkBox rfl (.tmp 0) rfl rfl HX.out ?_; intro w1 hk1 hb1 hz1; have K := Lib.hid hk1; replace HB := Lib.hid (below_ext HB.out hb1); clear hk1 hb1)
      | (go_at_call_of 41 (Value.slice (some ⟨w.heap.size, 0, none⟩) 64 64); refine (P0.out _ _ _ (by have h := K.out.all; rw [HX.out] at h; exact h)).mono ?_; rintro e w2 ⟨⟨A1, c1, rfl, o1⟩, hb⟩; have O1 := Lib.hid o1; have c64 : 64 ≤ c1 := (by have h := o1.le; rw [HX.out] at h; exact h); have cm := o1.cap; clear o1; replace HB := Lib.hid (below_ext HB.out hb); clear hb)
      | (go_at_call_of 45 (Value.int .i64 0); refine (P1.out _ _ c64 cm _ (show ReadsInt _ .u8 A1 64 xs from by have h := O1.out.reads; rw [HX.out] at h; exact h)).mono ?_; rintro e w3 ⟨rfl, hb⟩; replace O1 := Lib.hid (O1.out.below hb); replace HB := Lib.hid (below_ext HB.out hb); clear hb)
      | (go_at_call_of 45 (Value.int .i64 56); refine (P2.out _ _ c64 cm _ (show ReadsInt _ .u8 A1 64 xs from by have h := O1.out.reads; rw [HX.out] at h; exact h)).mono ?_; rintro e w4 ⟨rfl, hb⟩; replace O1 := Lib.hid (O1.out.below hb); replace HB := Lib.hid (below_ext HB.out hb); clear hb)
      | (go_at_call_of 45 (Value.int .i64 52); refine (P3.out _ _ c64 cm _ (show ReadsInt _ .u8 A1 64 xs from by have h := O1.out.reads; rw [HX.out] at h; exact h)).mono ?_; rintro e w5 ⟨rfl, hb⟩; replace O1 := Lib.hid (O1.out.below hb); replace HB := Lib.hid (below_ext HB.out hb); clear hb)
      | (go_at_call 124; refine (P4.out _ _ _ (by have h := (show ReadsInt _ .u8 A1 64 xs from by have h := O1.out.reads; rw [HX.out] at h; exact h).take_ 52 (by decide); exact h)).mono ?_; rintro e w6 ⟨rfl, hb⟩; replace O1 := Lib.hid (O1.out.below hb); replace HB := Lib.hid (below_ext HB.out hb); clear hb))
    go_ret3
    exact ⟨got_errP HG.out, HB.out⟩
  · have HG := Lib.hid (show gots xs = (f, inner xs, 0) by rw [gots, if_neg (by rw [← hf, ← hl2]; omega), if_neg (by rw [← hc, ← hm]; omega), hf])
    have HI := Lib.hid (inner_length hl)
    have e1 : ((f : Int) == 0) = false := by simp; omega
    have e2 : ((f : Int) != (l : Int)) = false := by simp; omega
    have e3 : ((c : Int) != (m : Int)) = false := by simp; omega
    clear hf hl2 hm hc hw hl h h2 h3
    go_enter Try.func60, Try.ntmps60
    go_wp2_with (first
      | (refine blkBox rfl (.tmp 0) rfl rfl HX.out ?_; intro w1 hk1 hb1 hz1; have K := Lib.hid hk1; replace HB := Lib.hid (below_ext HB.out hb1); clear hk1 hb1)
      | (go_at_call_of 41 (Value.slice (some ⟨w.heap.size, 0, none⟩) 64 64); refine (P0.out _ _ _ (by have h := K.out.all; rw [HX.out] at h; exact h)).mono ?_; rintro e w2 ⟨⟨A1, c1, rfl, o1⟩, hb⟩; have O1 := Lib.hid o1; have c64 : 64 ≤ c1 := (by have h := o1.le; rw [HX.out] at h; exact h); have cm := o1.cap; clear o1; replace HB := Lib.hid (below_ext HB.out hb); clear hb)
      | (go_at_call_of 45 (Value.int .i64 0); refine (P1.out _ _ c64 cm _ (show ReadsInt _ .u8 A1 64 xs from by have h := O1.out.reads; rw [HX.out] at h; exact h)).mono ?_; rintro e w3 ⟨rfl, hb⟩; replace O1 := Lib.hid (O1.out.below hb); replace HB := Lib.hid (below_ext HB.out hb); clear hb)
      | (go_at_call_of 45 (Value.int .i64 56); refine (P2.out _ _ c64 cm _ (show ReadsInt _ .u8 A1 64 xs from by have h := O1.out.reads; rw [HX.out] at h; exact h)).mono ?_; rintro e w4 ⟨rfl, hb⟩; replace O1 := Lib.hid (O1.out.below hb); replace HB := Lib.hid (below_ext HB.out hb); clear hb)
      | (go_at_call_of 45 (Value.int .i64 52); refine (P3.out _ _ c64 cm _ (show ReadsInt _ .u8 A1 64 xs from by have h := O1.out.reads; rw [HX.out] at h; exact h)).mono ?_; rintro e w5 ⟨rfl, hb⟩; replace O1 := Lib.hid (O1.out.below hb); replace HB := Lib.hid (below_ext HB.out hb); clear hb)
      | (go_at_call 124; refine (P4.out _ _ _ (by have h := (show ReadsInt _ .u8 A1 64 xs from by have h := O1.out.reads; rw [HX.out] at h; exact h).take_ 52 (by decide); exact h)).mono ?_; rintro e w6 ⟨rfl, hb⟩; replace O1 := Lib.hid (O1.out.below hb); replace HB := Lib.hid (below_ext HB.out hb); clear hb)
      | (go_at_call 41; refine (P5.out _ _ _ (HS5.out _ _ (show ReadsInt _ .u8 A1 64 xs from by have h := O1.out.reads; rw [HX.out] at h; exact h))).mono ?_; rintro e w7 ⟨⟨A7, c7, rfl, o7⟩, hb⟩; have O7 := Lib.hid (own_lower o7 HB.out.size); clear o7; replace O1 := Lib.hid (O1.out.below hb); replace HB := Lib.hid (below_ext HB.out hb); clear hb))
    go_ret3
    exact ⟨⟨A7, c7, by rw [HG.out]; show _ = Ending.returned (.tuple #[.int .u64 (f : Int), .slice A7 (inner xs).length c7, .int .i64 0]); rw [HI.out]; rfl, by rw [HG.out]; exact O7.out⟩, HB.out⟩
end Go.Proofs.Ytdchcggllcgokaa.E
