/-
  Sealed sectors: one byte changed; torn: plain laws.
-/
import Derived.Test.YtdchcggllcgokaaSealL
namespace Go.Proofs.Ytdchcggllcgokaa.E
open Go.RowKit Go.Proofs.Ytdchcggllcgokaa.L Go.Proofs.Ytdchcggllcgokaa.U Go.Proofs.Ytdchcggllcgokaa.R Go.Proofs.YtdchcggllcgokaaW.PrintWords
set_option linter.unusedVariables false
set_option linter.unusedSimpArgs false

theorem more_one (s : BitVec 32) (a b : List (BitVec 8)) (x c : BitVec 8) (h : x ≠ c) : C.more s (a ++ x :: b) ≠ C.more s (a ++ c :: b) := by
  intro he
  have h1 : C.fold (~~~ s) (a ++ x :: b) = C.fold (~~~ s) (a ++ c :: b) := by
    have := congrArg (fun z : BitVec 32 => ~~~ z) he
    simpa [C.more] using this
  rw [C.fold_append, C.fold_append] at h1
  obtain ⟨r, hr⟩ : ∃ r, r = C.fold (~~~ s) a := ⟨_, rfl⟩
  rw [← hr] at h1
  have h2 : C.take r c = C.take r x ^^^ C.steps 8 ((x ^^^ c).setWidth 32) := by
    have h3 := C.take_xor r 0#32 x (x ^^^ c)
    rw [BitVec.xor_zero, ← BitVec.xor_assoc, BitVec.xor_self, BitVec.zero_xor, BitVec.zero_xor] at h3
    exact h3
  have h4 : C.fold (C.take r c) b = C.fold (C.take r x) b ^^^ C.steps (8 * b.length) (C.steps 8 ((x ^^^ c).setWidth 32)) := by rw [h2, C.fold_xor]
  have h5 : C.fold (C.take r x) b = C.fold (C.take r c) b := h1
  rw [h4] at h5
  have h6 : (x ^^^ c).setWidth 32 ≠ 0#32 := by
    intro h7
    apply h
    have h8 : (x ^^^ c).toNat = 0 := by
      have h9 := congrArg BitVec.toNat h7
      have h8 := (x ^^^ c).isLt
      rw [BitVec.toNat_setWidth, Nat.mod_eq_of_lt (by omega)] at h9
      exact h9
    have h10 : x ^^^ c = 0#8 := BitVec.eq_of_toNat_eq (by rw [h8]; rfl)
    have h11 : x ^^^ (x ^^^ c) = x := by rw [h10, BitVec.xor_zero]
    rw [← BitVec.xor_assoc, BitVec.xor_self, BitVec.zero_xor] at h11
    exact h11.symm
  have h12 := C.steps_ne (8 * b.length) (C.steps_ne 8 h6)
  apply h12
  have h13 := congrArg (fun z => C.fold (C.take r x) b ^^^ z) h5
  simp only [BitVec.xor_self, ← BitVec.xor_assoc, BitVec.zero_xor] at h13
  exact h13.symm
theorem crcs_set {xs : List Int} (hw : Wf8 xs) {k : Nat} (hk : k < xs.length) {v : Int} (hv : (Lit.int .u8 v).wf = true) (hne : v ≠ rd xs (k : Int)) : crcs (xs.set k v) ≠ crcs xs := by
  intro he
  have h1 : C.more 0#32 ((xs.set k v).map fun x => BitVec.ofInt 8 x) = C.more 0#32 (xs.map fun x => BitVec.ofInt 8 x) := BitVec.eq_of_toNat_eq he
  have e1 : xs = xs.take k ++ xs[k] :: xs.drop (k + 1) := by rw [← List.drop_eq_getElem_cons hk, List.take_append_drop]
  have e2 : xs.set k v = xs.take k ++ v :: xs.drop (k + 1) := List.set_eq_take_append_cons_drop.trans (if_pos hk)
  rw [e2] at h1
  conv at h1 => rhs; rw [e1]
  rw [List.map_append, List.map_append, List.map_cons, List.map_cons] at h1
  refine more_one 0#32 _ _ _ _ ?_ h1
  intro h2
  apply hne
  obtain ⟨v0, v1⟩ := bounds_u8 hv
  obtain ⟨x0, x1⟩ := bounds_u8 (hw _ (List.getElem_mem hk))
  have h3 := congrArg BitVec.toInt h2
  have e3 : rd xs (k : Int) = xs[k] := by simp [rd, List.getD_eq_getElem?_getD, List.getElem?_eq_getElem hk]
  rw [e3]
  have h4 := congrArg BitVec.toNat h2
  rw [BitVec.toNat_ofInt, BitVec.toNat_ofInt] at h4
  omega
theorem vle_inj {f g : Nat → Nat} (hf : ∀ i, f i < 256) (hg : ∀ i, g i < 256) : ∀ k, vle f k = vle g k → ∀ i, i < k → f i = g i := by
  intro k
  induction k with
  | zero => intro _ i hi; omega
  | succ k ih =>
    intro h i hi
    rw [vle, vle] at h
    have h1 := vle_lt f hf k
    have h2 := vle_lt g hg k
    obtain ⟨p, hp⟩ : ∃ p, p = 256 ^ k := ⟨_, rfl⟩
    rw [← hp] at h h1 h2
    have e1 : f k = (vle f k + f k * p) / p := by rw [Nat.add_mul_div_right _ _ (by omega), Nat.div_eq_of_lt h1, Nat.zero_add]
    have e2 : g k = (vle g k + g k * p) / p := by rw [Nat.add_mul_div_right _ _ (by omega), Nat.div_eq_of_lt h2, Nat.zero_add]
    have e3 : f k = g k := by rw [e1, e2, h]
    by_cases hik : i = k
    · rw [hik]; exact e3
    · refine ih ?_ i (by omega)
      rw [e3] at h; omega
theorem rd_set {xs : List Int} {k i : Nat} {v : Int} (hk : k < xs.length) : rd (xs.set k v) (i : Int) = if i = k then v else rd xs (i : Int) := by
  simp only [rd, Int.toNat_natCast, List.getD_eq_getElem?_getD, List.getElem?_set]
  by_cases h : k = i
  · subst h; simp [hk]
  · rw [if_neg h, if_neg (fun e => h e.symm)]
theorem bat_set {xs : List Int} {k a i : Nat} {v : Int} (hk : k < xs.length) : bat (xs.set k v) a i = if a + i = k then v.toNat else bat xs a i := by
  rw [bat, rd_set hk, bat]
  split <;> rfl
theorem set_wf {xs : List Int} {k : Nat} {v : Int} (hw : Wf8 xs) (hv : (Lit.int .u8 v).wf = true) : Wf8 (xs.set k v) := fun x hx => by
  rcases List.mem_or_eq_of_mem_set hx with h | rfl
  · exact hw x h
  · exact hv
theorem set_same {xs : List Int} {k : Nat} (hk : k < xs.length) : xs.set k (rd xs (k : Int)) = xs := by
  have e : rd xs (k : Int) = xs[k] := by simp [rd, List.getD_eq_getElem?_getD, List.getElem?_eq_getElem hk]
  rw [e, List.set_getElem_self]
/-- numbers of bytes that part at one byte part -/
theorem vle_set {xs : List Int} (hw : Wf8 xs) {k a s : Nat} {v : Int} (hk : k < xs.length) (hv : (Lit.int .u8 v).wf = true) (hne : v ≠ rd xs (k : Int)) (h1 : a ≤ k) (h2 : k < a + s) : vle (bat (xs.set k v) a) s ≠ vle (bat xs a) s := by
  intro h
  have h3 := vle_inj (bat_lt (set_wf hw hv) a) (bat_lt hw a) s h (k - a) (by omega)
  rw [bat_set hk, if_pos (by omega), bat, show a + (k - a) = k by omega] at h3
  obtain ⟨v0, v1⟩ := bounds_u8 hv
  have h4 := rd_byte hw k
  omega
theorem vle_out {xs : List Int} {k a s : Nat} {v : Int} (hk : k < xs.length) (h : k < a ∨ a + s ≤ k) : vle (bat (xs.set k v) a) s = vle (bat xs a) s :=
  vle_congr fun i hi => by rw [bat_set hk, if_neg (by omega)]
/-- one byte changed: refused -/
theorem byte_no {n : Nat} {ys : List Int} (h0 : n ≠ 0) (hn : n < 18446744073709551616) (hl : ys.length ≤ 44) (hw : Wf8 ys) {k : Nat} (hk : k < 64) {v : Int} (hv : (Lit.int .u8 v).wf = true) (hne : v ≠ rd (sealed n ys) (k : Int)) :
    (gots ((sealed n ys).set k v)).2.2 = 5 ∨ (gots ((sealed n ys).set k v)).2.2 = 6 := by
  have hkl : k < (sealed n ys).length := by rw [sealed_length hl]; exact hk
  have f1 := first_sealed (ys := ys) hn
  have l1 := last_sealed hn hl
  have t1 := told_sealed (n := n) hl
  have k1 := take_sealed (n := n) hl
  have sw := sealed_wf n hw
  obtain ⟨T, hT⟩ : ∃ T, T = sealed n ys := ⟨_, rfl⟩
  rw [← hT] at f1 l1 t1 k1 sw hkl hne ⊢
  rcases (by omega : k < 8 ∨ (8 ≤ k ∧ k < 52) ∨ (52 ≤ k ∧ k < 56) ∨ 56 ≤ k) with h | ⟨h, h2⟩ | ⟨h, h2⟩ | h
  · left
    have e1 : last (T.set k v) = n := by rw [last, vle_out hkl (by omega)]; exact l1
    have e2 : first (T.set k v) ≠ n := by rw [← f1]; exact vle_set sw hkl hv hne (by omega) (by omega)
    rw [gots, if_pos (.inr (by rw [e1]; exact e2))]
  · right
    have e1 : last (T.set k v) = n := by rw [last, vle_out hkl (by omega)]; exact l1
    have e2 : first (T.set k v) = n := by rw [first, vle_out hkl (by omega)]; exact f1
    have e3 : told (T.set k v) = crcs (T.take 52) := by rw [told, vle_out hkl (by omega), k1]; exact t1
    have e4 : (T.set k v).take 52 = (T.take 52).set k v := List.take_set ..
    rw [gots, if_neg (by rw [e1, e2]; omega), if_pos]
    rw [e3, e4]
    refine crcs_set (wf_take sw 52) (by rw [List.length_take]; omega) hv ?_
    intro h9
    apply hne
    rw [h9]
    simp [rd, List.getD_eq_getElem?_getD, List.getElem?_take, h2]
  · right
    have e1 : last (T.set k v) = n := by rw [last, vle_out hkl (by omega)]; exact l1
    have e2 : first (T.set k v) = n := by rw [first, vle_out hkl (by omega)]; exact f1
    have e3 : (T.set k v).take 52 = T.take 52 := by rw [List.take_set]; exact List.set_eq_of_length_le (by rw [List.length_take]; omega)
    have e4 : told (T.set k v) ≠ told T := vle_set sw hkl hv hne (by omega) (by omega)
    rw [gots, if_neg (by rw [e1, e2]; omega), if_pos]
    rw [e3, k1, ← t1]
    exact fun e => e4 e.symm
  · left
    have e1 : last (T.set k v) ≠ n := by rw [← l1]; exact vle_set sw hkl hv hne (by omega) (by omega)
    have e2 : first (T.set k v) = n := by rw [first, vle_out hkl (by omega)]; exact f1
    rw [gots, if_pos (.inr (by rw [e2]; exact fun e => e1 e.symm))]

/-! ### torn -/
theorem rd_cut {xs ys : List Int} {p i : Nat} (hx : xs.length = 64) (hy : ys.length = 64) (hp : p ≤ 64) : rd (xs.take p ++ ys.drop p) (i : Int) = if i < p then rd xs (i : Int) else rd ys (i : Int) := by
  simp only [rd, Int.toNat_natCast, List.getD_eq_getElem?_getD]
  by_cases h : i < p
  · rw [if_pos h, List.getElem?_append_left (by rw [List.length_take]; omega), List.getElem?_take, if_pos h]
  · rw [if_neg h, List.getElem?_append_right (by rw [List.length_take]; omega), List.length_take, Nat.min_eq_left (by omega), List.getElem?_drop, show p + (i - p) = i by omega]
theorem ext_rd {xs ys : List Int} (hx : xs.length = 64) (hy : ys.length = 64) (h : ∀ i : Nat, i < 64 → rd xs (i : Int) = rd ys (i : Int)) : xs = ys := by
  refine List.ext_getElem (by omega) fun i h1 h2 => ?_
  have h3 := h i (by omega)
  simpa [rd, List.getD_eq_getElem?_getD, List.getElem?_eq_getElem h1, List.getElem?_eq_getElem h2] using h3
theorem bytes_of {xs ys : List Int} (hwx : Wf8 xs) (hwy : Wf8 ys) {a s : Nat} (h : vle (bat xs a) s = vle (bat ys a) s) (i : Nat) (h1 : a ≤ i) (h2 : i < a + s) : rd xs (i : Int) = rd ys (i : Int) := by
  have h3 := vle_inj (bat_lt hwx a) (bat_lt hwy a) s h (i - a) (by omega)
  rw [bat, bat, show a + (i - a) = i by omega] at h3
  have h4 := rd_byte hwx i
  have h5 := rd_byte hwy i
  omega
/-- a sealed sector torn over one of another number: that one, the new one, or refused -/
theorem torn_is {old now : List Int} {n m : Nat} {q : Int} (ho : old.length = 64) (hn : now.length = 64) (hwo : Wf8 old) (hwn : Wf8 now) (h1 : first old = m) (h2 : last old = m) (h3 : first now = n) (h4 : last now = n) (hne : n ≠ m) :
    torn old now q = old ∨ torn old now q = now ∨ (gots (torn old now q)).2.2 = 5 := by
  obtain ⟨p, hp⟩ : ∃ p, p = min q.toNat 64 := ⟨_, rfl⟩
  have hp64 : p ≤ 64 := by omega
  have hT : torn old now q = now.take p ++ old.drop p := by rw [torn, hp]
  have hTl := torn_length (n := q) ho hn
  have hTw := torn_wf (n := q) hwo hwn
  have hrd : ∀ i : Nat, rd (torn old now q) (i : Int) = if i < p then rd now (i : Int) else rd old (i : Int) := fun i => by rw [hT]; exact rd_cut hn ho hp64
  obtain ⟨T, hTT⟩ : ∃ T, T = torn old now q := ⟨_, rfl⟩
  rw [← hTT] at hTl hTw hrd ⊢
  have err : first T ≠ last T → (gots T).2.2 = 5 := fun h => by rw [gots, if_pos (.inr h)]
  rcases (by omega : p ≤ 8 ∨ (8 < p ∧ p ≤ 56) ∨ 56 < p) with h | ⟨h, h'⟩ | h
  · have e1 : last T = m := by rw [← h2]; exact vle_congr fun i hi => by rw [bat, bat, hrd, if_neg (by omega)]
    by_cases e2 : first T = m
    · left
      refine ext_rd hTl ho fun i hi => ?_
      by_cases hi8 : i < 8
      · exact bytes_of hTw hwo (a := 0) (s := 8) (by rw [show vle (bat T 0) 8 = first T from rfl, e2, ← h1]; rfl) i (by omega) (by omega)
      · rw [hrd, if_neg (by omega)]
    · exact .inr (.inr (err (by rw [e1]; exact e2)))
  · refine .inr (.inr (err ?_))
    have e1 : last T = m := by rw [← h2]; exact vle_congr fun i hi => by rw [bat, bat, hrd, if_neg (by omega)]
    have e2 : first T = n := by rw [← h3]; exact vle_congr fun i hi => by rw [bat, bat, hrd, if_pos (by omega)]
    rw [e1, e2]; exact hne
  · have e2 : first T = n := by rw [← h3]; exact vle_congr fun i hi => by rw [bat, bat, hrd, if_pos (by omega)]
    by_cases e1 : last T = n
    · refine .inr (.inl (ext_rd hTl hn fun i hi => ?_))
      by_cases hi8 : i < 56
      · rw [hrd, if_pos (by omega)]
      · exact bytes_of hTw hwn (a := 56) (s := 8) (by rw [show vle (bat T 56) 8 = last T from rfl, e1, ← h4]; rfl) i (by omega) (by omega)
    · exact .inr (.inr (err (by rw [e2]; exact fun e => e1 e.symm)))
theorem first_zeros : first zeros = 0 := by decide +kernel
theorem last_zeros : last zeros = 0 := by decide +kernel
end Go.Proofs.Ytdchcggllcgokaa.E
